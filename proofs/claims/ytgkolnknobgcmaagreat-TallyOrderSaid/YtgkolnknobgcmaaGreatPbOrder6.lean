import Derived.Test.YtgkolnknobgcmaaGreatPa5
/-! P1, C34 -/
section
namespace Go.Proofs.YtgkolnknobgcmaaGreat
open Go Go.Proofs.YtgkolnknobgcmaaGreatV
set_option linter.unusedVariables false

def runOps (cs : List Int) (l : List (Nat × Int)) : List Int := l.foldl (fun c x => addAt c x.1 x.2) cs
theorem runOps_append (cs : List Int) (l m : List (Nat × Int)) : runOps cs (l ++ m) = runOps (runOps cs l) m := List.foldl_append
def opsOne (z : Stz) : List (Nat × Int) := (3, sizeF (putOf z)) :: (if kindP z.k = -1 then [] else [((kindP z.k).toNat, 1)])
theorem noteOne_ops (cs : List Int) (z : Stz) : noteOne cs z = runOps cs (opsOne z) := by
  unfold noteOne opsOne runOps
  dsimp only
  split <;> rfl
def opsAct (a : ActD) : List (Nat × Int) :=
  if a.name = [] then (0, 1) :: ((if a.e = 0 then [] else [(1, 1)]) ++ ((2, (a.said.length : Int)) :: (11, (a.ns : Int)) :: a.said.flatMap fun x => opsOne x.2))
  else if addOk a.name a.n = true then [((placeL namesL a.name).toNat, a.n)] else []
theorem foldl_noteOne : ∀ (l : List (Int × Stz)) (cs : List Int), (l.map (·.2)).foldl noteOne cs = runOps cs (l.flatMap fun x => opsOne x.2)
  | [], _ => rfl
  | x :: l, cs => by
    rw [List.map_cons, List.foldl_cons, foldl_noteOne l, noteOne_ops, List.flatMap_cons, runOps_append]
theorem actStep_ops (cs : List Int) (a : ActD) : actStep cs a = runOps cs (opsAct a) := by
  unfold actStep opsAct
  split
  · unfold noteL
    rw [foldl_noteOne]
    split <;> simp [runOps]
  · unfold addP
    split <;> rfl
theorem sizeF_nonneg (l : List UInt8) : 0 ≤ sizeF l := by unfold sizeF; split <;> omega
theorem opsOne_ok {z : Stz} : ∀ x ∈ opsOne z, x.1 < 12 ∧ 0 ≤ x.2 := by
  intro x hx
  unfold opsOne at hx
  rcases List.mem_cons.1 hx with rfl | hx
  · exact ⟨by show 3 < 12; decide, sizeF_nonneg _⟩
  · split at hx
    · cases hx
    · rename_i h
      simp only [List.mem_singleton] at hx; subst hx
      rcases kindP_cases z.k with h' | ⟨j, hj, h'⟩
      · exact absurd h' h
      · exact ⟨by show (kindP z.k).toNat < 12; rw [h']; exact hj, by show (0 : Int) ≤ 1; decide⟩
theorem opsAct_ok {a : ActD} : ∀ x ∈ opsAct a, x.1 < 12 ∧ 0 ≤ x.2 := by
  intro x hx
  unfold opsAct at hx
  split at hx
  · rcases List.mem_cons.1 hx with rfl | hx
    · exact ⟨by decide, by decide⟩
    · rcases List.mem_append.1 hx with hx | hx
      · split at hx
        · cases hx
        · simp only [List.mem_singleton] at hx; subst hx; exact ⟨by decide, by decide⟩
      · rcases List.mem_cons.1 hx with rfl | hx
        · exact ⟨by show 2 < 12; decide, by show (0 : Int) ≤ (a.said.length : Int); omega⟩
        · rcases List.mem_cons.1 hx with rfl | hx
          · exact ⟨by show 11 < 12; decide, by show (0 : Int) ≤ (a.ns : Int); omega⟩
          · obtain ⟨y, _, hy⟩ := List.mem_flatMap.1 hx
            exact opsOne_ok x hy
  · split at hx
    · rename_i h
      simp only [List.mem_singleton] at hx; subst hx
      simp only [addOk, Bool.and_eq_true, decide_eq_true_eq, Bool.not_eq_true', beq_eq_false_iff_ne] at h
      rcases placeL_cases namesL a.name with h' | ⟨j, hj, h', _⟩
      · exact absurd h' h.2
      · exact ⟨by show (placeL namesL a.name).toNat < 12; rw [h']; exact hj, h.1⟩
    · cases hx
def sumAt (j : Nat) : List (Nat × Int) → Int
  | [] => 0
  | x :: l => (if x.1 = j then x.2 else 0) + sumAt j l
theorem sumAt_append (j : Nat) : ∀ l m, sumAt j (l ++ m) = sumAt j l + sumAt j m
  | [], m => by simp [sumAt]
  | x :: l, m => by simp only [List.cons_append, sumAt, sumAt_append j l m]; omega
theorem sumAt_nonneg (j : Nat) : ∀ l : List (Nat × Int), (∀ x ∈ l, x.1 < 12 ∧ 0 ≤ x.2) → 0 ≤ sumAt j l
  | [], _ => by simp [sumAt]
  | x :: l, h => by
    have h1 := (h x (by simp)).2
    have h2 := sumAt_nonneg j l fun y hy => h y (by simp [hy])
    simp only [sumAt]; split <;> omega
/-- Counts, each from 0 to the greatest. -/
def Cts (cs : List Int) : Prop := cs.length = 12 ∧ ∀ c ∈ cs, 0 ≤ c ∧ c ≤ 4611686018427387904
theorem Cts.get {cs : List Int} (h : Cts cs) (i : Nat) (hi : i < 12) : 0 ≤ cs[i]?.getD 0 ∧ cs[i]?.getD 0 ≤ 4611686018427387904 := by
  have hl := h.1
  rw [List.getElem?_eq_getElem (by omega)]
  exact h.2 _ (List.getElem_mem _)
theorem Cts.add {cs : List Int} (h : Cts cs) {i : Nat} (hi : i < 12) {n : Int} (hn : 0 ≤ n) : Cts (addAt cs i n) := by
  refine ⟨by simp [addAt, h.1], fun c hc => ?_⟩
  rcases List.mem_or_eq_of_mem_set hc with hc | rfl
  · exact h.2 _ hc
  · exact sat_b (h.get i hi) hn
theorem addAt_get {cs : List Int} (h : Cts cs) {i j : Nat} (hi : i < 12) (hj : j < 12) {n : Int} (hn : 0 ≤ n) : (addAt cs i n)[j]?.getD 0 = min 4611686018427387904 (cs[j]?.getD 0 + if i = j then n else 0) := by
  have hl := h.1
  have hb := h.get j hj
  unfold addAt
  rw [List.getElem?_set]
  by_cases e : i = j
  · subst e
    rw [if_pos rfl, if_pos (by omega), if_pos rfl]
    simp only [Option.getD_some, sat]
    split <;> omega
  · rw [if_neg e, if_neg e]; omega
theorem run_cts : ∀ (l : List (Nat × Int)) {cs : List Int}, Cts cs → (∀ x ∈ l, x.1 < 12 ∧ 0 ≤ x.2) → Cts (runOps cs l)
  | [], _, h, _ => h
  | x :: l, cs, h, hx => run_cts l (h.add (hx x (by simp)).1 (hx x (by simp)).2) fun y hy => hx y (by simp [hy])
theorem run_get {j : Nat} (hj : j < 12) : ∀ (l : List (Nat × Int)) {cs : List Int}, Cts cs → (∀ x ∈ l, x.1 < 12 ∧ 0 ≤ x.2) → (runOps cs l)[j]?.getD 0 = min 4611686018427387904 (cs[j]?.getD 0 + sumAt j l)
  | [], cs, h, _ => by have := h.get j hj; simp only [runOps, List.foldl_nil, sumAt]; omega
  | x :: l, cs, h, hx => by
    have h1 := hx x (by simp)
    have h2 := run_get hj l (h.add h1.1 h1.2) fun y hy => hx y (by simp [hy])
    have h3 := sumAt_nonneg j l fun y hy => hx y (by simp [hy])
    have h4 := addAt_get h h1.1 hj h1.2
    have : runOps cs (x :: l) = runOps (addAt cs x.1 x.2) l := rfl
    rw [this, h2, h4]
    simp only [sumAt]
    split <;> omega
theorem zeros_cts : Cts zeros12 := ⟨rfl, fun c hc => by simp [zeros12] at hc; omega⟩
theorem foldl_act : ∀ (l : List ActD) (cs : List Int), l.foldl actStep cs = runOps cs (l.flatMap opsAct)
  | [], _ => rfl
  | a :: l, cs => by rw [List.foldl_cons, foldl_act l, actStep_ops, List.flatMap_cons, runOps_append]
theorem acts_ok {l : List ActD} : ∀ x ∈ l.flatMap opsAct, x.1 < 12 ∧ 0 ≤ x.2 := fun x hx => by
  obtain ⟨a, _, ha⟩ := List.mem_flatMap.1 hx
  exact opsAct_ok x ha
theorem count_cts (l : List ActD) : Cts (countL l) := by
  unfold countL; rw [foldl_act]; exact run_cts _ zeros_cts acts_ok
theorem zeros_get : ∀ j : Nat, j < 12 → zeros12[j]?.getD 0 = 0 := by decide +kernel
theorem count_get {j : Nat} (hj : j < 12) (l : List ActD) : (countL l)[j]?.getD 0 = min 4611686018427387904 (sumAt j (l.flatMap opsAct)) := by
  unfold countL; rw [foldl_act, run_get hj _ zeros_cts acts_ok, zeros_get j hj, Int.zero_add]
theorem sum_reverse (j : Nat) : ∀ l : List ActD, sumAt j (l.reverse.flatMap opsAct) = sumAt j (l.flatMap opsAct)
  | [] => rfl
  | a :: l => by
    rw [List.reverse_cons, List.flatMap_append, sumAt_append, sum_reverse j l, List.flatMap_cons, List.flatMap_nil, List.append_nil, List.flatMap_cons, sumAt_append]; omega
theorem count_reverse {j : Nat} (hj : j < 12) (l : List ActD) : (countL l.reverse)[j]?.getD 0 = (countL l)[j]?.getD 0 := by
  rw [count_get hj, count_get hj, sum_reverse]
theorem joinF_get {j : Nat} (hj : j < 12) {ds : List Int} (hd : Cts ds) : ∀ (k i : Nat) {cs : List Int}, Cts cs → i + k ≤ 12 → Cts (joinF cs ds i k) ∧ (joinF cs ds i k)[j]?.getD 0 = min 4611686018427387904 (cs[j]?.getD 0 + if i ≤ j ∧ j < i + k then ds[j]?.getD 0 else 0)
  | 0, i, cs, h, _ => by
    refine ⟨h, ?_⟩
    have := h.get j hj
    simp only [joinF]
    rw [if_neg (by omega)]; omega
  | k + 1, i, cs, h, hik => by
    have hi := hd.get i (by omega)
    have hdj := hd.get j hj
    obtain ⟨h1, h2⟩ := joinF_get hj hd k (i + 1) (h.add (i := i) (n := ds[i]?.getD 0) (by omega) hi.1) (by omega)
    refine ⟨h1, ?_⟩
    show (joinF (addAt cs i (ds[i]?.getD 0)) ds (i + 1) k)[j]?.getD 0 = _
    rw [h2, addAt_get h (by omega) hj hi.1]
    by_cases e : i = j
    · subst e
      rw [if_pos rfl, if_neg (by omega), if_pos (by omega)]; omega
    · rw [if_neg e]
      by_cases e2 : i + 1 ≤ j ∧ j < i + 1 + k
      · rw [if_pos e2, if_pos (by omega)]
        have := h.get j hj
        omega
      · rw [if_neg e2, if_neg (by omega)]
        have := h.get j hj
        omega
theorem join_get {j : Nat} (hj : j < 12) {cs ds : List Int} (h : Cts cs) (hd : Cts ds) : (joinL cs ds)[j]?.getD 0 = min 4611686018427387904 (cs[j]?.getD 0 + ds[j]?.getD 0) := by
  have := (joinF_get hj hd 12 0 h (by decide)).2
  rw [if_pos (by omega)] at this
  exact this
theorem join_count {j : Nat} (hj : j < 12) (l o : List ActD) : (joinL (countL l) (countL o))[j]?.getD 0 = (countL (l ++ o))[j]?.getD 0 := by
  rw [join_get hj (count_cts l) (count_cts o), count_get hj, count_get hj, count_get hj, List.flatMap_append, sumAt_append]
  have h1 := sumAt_nonneg j _ (acts_ok (l := l))
  have h2 := sumAt_nonneg j _ (acts_ok (l := o))
  omega
theorem join_count' {j : Nat} (hj : j < 12) (l o : List ActD) : (joinL (countL o) (countL l))[j]?.getD 0 = (countL (l ++ o))[j]?.getD 0 := by
  rw [join_get hj (count_cts o) (count_cts l), count_get hj, count_get hj, count_get hj, List.flatMap_append, sumAt_append]
  have h1 := sumAt_nonneg j _ (acts_ok (l := l))
  have h2 := sumAt_nonneg j _ (acts_ok (l := o))
  omega
end Go.Proofs.YtgkolnknobgcmaaGreat
end
section
namespace Go.Proofs.YtgkolnknobgcmaaGreat
open Go Go.Proofs.YtgkolnknobgcmaaGreatV Go.Shelf
set_option maxRecDepth 20000
set_option linter.unusedSimpArgs false
set_option linter.unusedVariables false
set_option maxHeartbeats 4000000
theorem bC340 : type_of% @Tryz.underlying3 ∧ type_of% @ty3 ∧ type_of% @zero3 ∧ type_of% @Tryz.ntmps21 := ⟨@Tryz.underlying3, @ty3, @zero3, @Tryz.ntmps21⟩
theorem bC341 : type_of% @Tryz.underlying3 ∧ type_of% @ty3 ∧ type_of% @zero3 ∧ type_of% @Tryz.underlying9 ∧ type_of% @ty9 ∧ type_of% @zero9 ∧ type_of% @Tryz.underlying22 ∧ type_of% @einf22 ∧ type_of% @elt22 ∧ type_of% @ty22 ∧ type_of% @zero22 ∧ type_of% @Tryz.underlying25 ∧ type_of% @ty25 ∧ type_of% @zero25 ∧ type_of% @Tryz.underlying34 ∧ type_of% @elt34 ∧ type_of% @fld34_0 ∧ type_of% @fld34_1 ∧ type_of% @fld34_2 ∧ type_of% @flds34 ∧ type_of% @ty34 ∧ type_of% @zero34 ∧ type_of% @Tryz.ntmps4 := ⟨@Tryz.underlying3, @ty3, @zero3, @Tryz.underlying9, @ty9, @zero9, @Tryz.underlying22, @einf22, @elt22, @ty22, @zero22, @Tryz.underlying25, @ty25, @zero25, @Tryz.underlying34, @elt34, @fld34_0, @fld34_1, @fld34_2, @flds34, @ty34, @zero34, @Tryz.ntmps4⟩
variable {H : Mem} {K : Value → Mem → Prop}

theorem nameR_W {i : Nat} (hi : i < 12) (h : K (.string (bs (namesL[i]?.getD []))) H) : InvW Tryz.prog 21 #[.int .i64 i] H K := by
  obtain rfl | rfl | rfl | rfl | rfl | rfl | rfl | rfl | rfl | rfl | rfl | rfl : i = 0 ∨ i = 1 ∨ i = 2 ∨ i = 3 ∨ i = 4 ∨ i = 5 ∨ i = 6 ∨ i = 7 ∨ i = 8 ∨ i = 9 ∨ i = 10 ∨ i = 11 := by omega
  all_goals ((refine invW_of_pw Tryz.func21 rfl rfl (by decide +kernel) (by simp [Tryz.f21]) ?_); simp -dsimp -failIfUnchanged (maxSteps := 2000000) (disch := omega) only [VA, if_true_, if_false_, reduceIte, Nat.reduceEqDiff, Nat.reduceAdd, Nat.reduceMul, Nat.reduceSub, Int.reduceToNat, Int.reduceAdd, Int.reduceNeg, Int.reduceSub, Int.reduceMul, Int.reduceBEq, Int.reduceBNe, Int.reduceLT, Int.reduceLE, Int.reduceEq, beq_self_eq_true, Int.reducePow, Nat.reducePow, Int.reduceDiv, Nat.reduceLeDiff, reduceCtorEq, Tryz.f21, Tryz.results21, bC340, Int.reduceBEq]
             exact h)
/-- Tallies that lie beside each other. -/
structure Tals (H0 H : Mem) (Ts : List (Nat × List Int)) : Prop where
  le : H0.le H
  new : ∀ x ∈ Ts, H0 x.1 = none
  t : ∀ x ∈ Ts, TalAt H x.1 x.2
  p : ∀ x ∈ Ts, H.p x.1 = true
  nd : (Ts.map (·.1)).Nodup
theorem nodup_fst {Ts : List (Nat × List Int)} (hn : (Ts.map (·.1)).Nodup) : ∀ x ∈ Ts, ∀ y ∈ Ts, x.1 = y.1 → x = y := by
  induction Ts with
  | nil => intro x hx; cases hx
  | cons z Ts ih =>
    rw [List.map_cons, List.nodup_cons] at hn
    intro x hx y hy e
    rcases List.mem_cons.1 hx with rfl | hx' <;> rcases List.mem_cons.1 hy with rfl | hy'
    · rfl
    · exact absurd (List.mem_map.2 ⟨y, hy', e.symm⟩) hn.1
    · exact absurd (List.mem_map.2 ⟨x, hx', e⟩) hn.1
    · exact ih hn.2 x hx' y hy' e
theorem Tals.upd {H0 H' : Mem} {Ts : List (Nat × List Int)} (h : Tals H0 H Ts) {b : Nat} {cs : List Int} (hm : (b, cs) ∈ Ts) (hb : LeBut b H H') (ht : TalAt H' b cs) : Tals H0 H' Ts :=
  ⟨hb.le h.le (h.new _ hm), h.new, fun x hx => by
    by_cases e : x.1 = b
    · have := nodup_fst h.nd x hx _ hm e
      subst this; exact ht
    · exact (h.t _ hm).keep (h.t x hx) e hb, fun x hx => hb.4 _ (h.p x hx), h.nd⟩
theorem Tals.set {H0 H' : Mem} {Ts Us : List (Nat × List Int)} (h : Tals H0 H Ts) {b : Nat} {cs cs' : List Int} (hm : (b, cs) ∈ Ts) (hb : LeBut b H H') (ht : TalAt H' b cs') (hf : Us.map (·.1) = Ts.map (·.1)) (hx : ∀ x ∈ Us, x = (b, cs') ∨ (x.1 ≠ b ∧ x ∈ Ts)) : Tals H0 H' Us :=
  ⟨hb.le h.le (h.new _ hm), fun x hu => by
    rcases hx x hu with rfl | ⟨_, h2⟩
    · exact h.new (b, cs) hm
    · exact h.new _ h2, fun x hu => by
    rcases hx x hu with rfl | ⟨h1, h2⟩
    · exact ht
    · exact (h.t _ hm).keep (h.t x h2) h1 hb, fun x hu => by
    rcases hx x hu with rfl | ⟨_, h2⟩
    · exact hb.4 _ (h.p (b, cs) hm)
    · exact hb.4 _ (h.p x h2), hf ▸ h.nd⟩
theorem get_all {H0 : Mem} {Ts : List (Nat × List Int)} (hL : Tals H0 H Ts) {b : Nat} {cs : List Int} {s : List UInt8} (hm : (b, cs) ∈ Ts) (h : ∀ H', Tals H0 H' Ts → K (.int .i64 (getP cs s)) H') :
    InvW Tryz.prog 22 #[.pointer (some ⟨b, 0, none⟩), .string (bs s)] H K :=
  getT_W (hL.t _ hm) fun H' hb ht => h H' (hL.upd hm hb ht)
theorem count_all {H0 : Mem} {Ts : List (Nat × List Int)} (hL : Tals H0 H Ts) {v : Value} {l : List ActD} (hB : Base H) (hv : ActsAt H v l) (hlen : l.length ≤ 1000) (hall : ∀ a ∈ l, a.few = true)
    (h : ∀ b H', H.le H' → Tals H0 H' ((b, countL l) :: Ts) → K (.pointer (some ⟨b, 0, none⟩)) H') : InvW Tryz.prog 23 #[v] H K := by
  refine count_W hB hv hlen hall fun b H' hb hle hT hp => h b H' hle ⟨Mem.le_trans hL.le hle, ?_, ?_, ?_, ?_⟩
  · intro x hx
    rcases List.mem_cons.1 hx with rfl | hx
    · exact le_none hL.le hb
    · exact hL.new x hx
  · intro x hx
    rcases List.mem_cons.1 hx with rfl | hx
    · exact hT
    · exact (hL.t x hx).le hle
  · intro x hx
    rcases List.mem_cons.1 hx with rfl | hx
    · exact hp
    · exact hle.4 _ (hL.p x hx)
  · rw [List.map_cons, List.nodup_cons]
    refine ⟨fun hm => ?_, hL.nd⟩
    obtain ⟨x, hx, e⟩ := List.mem_map.1 hm
    obtain ⟨_, B, hB', _⟩ := hL.t x hx
    simp only at e
    rw [e, hb] at hB'; cases hB'
theorem ActsAt.own {H0 H' : Mem} {v : Value} {l : List ActD} (ho : OwnV 5 H0 v l.length (l.flatMap ActD.cells) H') (ha : ∀ a ∈ l, a.at H0) : ActsAt H' v l :=
  ⟨ho.src, fun a h => ⟨(ha a h).1.le ho.le, (ha a h).2⟩⟩
theorem order_W {v w : Value} {l o : List ActD} (hB : Base H) (hv : ActsAt H v l) (hw : ActsAt H w o) (h : ∀ H', H.le H' → K (.bool true) H') :
    InvW Tryz.prog 4 #[v, w] H K := by
  obtain ⟨a0, c, rfl⟩ := hv.v.slice
  obtain ⟨a1, c1, rfl⟩ := hw.v.slice
  (refine invW_of_pw Tryz.func4 rfl rfl (by decide +kernel) (by simp [Tryz.f4]) ?_); simp -dsimp -failIfUnchanged (maxSteps := 2000000) (disch := omega) only [VA, if_true_, if_false_, reduceIte, Nat.reduceEqDiff, Nat.reduceAdd, Nat.reduceMul, Nat.reduceSub, Int.reduceToNat, Int.reduceAdd, Int.reduceNeg, Int.reduceSub, Int.reduceMul, Int.reduceBEq, Int.reduceBNe, Int.reduceLT, Int.reduceLE, Int.reduceEq, beq_self_eq_true, Int.reducePow, Nat.reducePow, Int.reduceDiv, Nat.reduceLeDiff, reduceCtorEq, Tryz.f4, Tryz.results4, bC341]
  refine few_W hv ?_
  cases hf : fewB l
  · simp -dsimp -failIfUnchanged (maxSteps := 2000000) (disch := omega) only [VA, if_true_, if_false_, reduceIte, Nat.reduceEqDiff, Nat.reduceAdd, Nat.reduceMul, Nat.reduceSub, Int.reduceToNat, Int.reduceAdd, Int.reduceNeg, Int.reduceSub, Int.reduceMul, Int.reduceBEq, Int.reduceBNe, Int.reduceLT, Int.reduceLE, Int.reduceEq, beq_self_eq_true, Int.reducePow, Nat.reducePow, Int.reduceDiv, Nat.reduceLeDiff, reduceCtorEq, Tryz.f4, Tryz.results4, bC341]
    refine awake_W hB fun H' hle => ?_
    simp -dsimp -failIfUnchanged (maxSteps := 2000000) (disch := omega) only [VA, if_true_, if_false_, reduceIte, Nat.reduceEqDiff, Nat.reduceAdd, Nat.reduceMul, Nat.reduceSub, Int.reduceToNat, Int.reduceAdd, Int.reduceNeg, Int.reduceSub, Int.reduceMul, Int.reduceBEq, Int.reduceBNe, Int.reduceLT, Int.reduceLE, Int.reduceEq, beq_self_eq_true, Int.reducePow, Nat.reducePow, Int.reduceDiv, Nat.reduceLeDiff, reduceCtorEq, Tryz.f4, Tryz.results4, bC341]
    exact h H' hle
  simp -dsimp -failIfUnchanged (maxSteps := 2000000) (disch := omega) only [VA, if_true_, if_false_, reduceIte, Nat.reduceEqDiff, Nat.reduceAdd, Nat.reduceMul, Nat.reduceSub, Int.reduceToNat, Int.reduceAdd, Int.reduceNeg, Int.reduceSub, Int.reduceMul, Int.reduceBEq, Int.reduceBNe, Int.reduceLT, Int.reduceLE, Int.reduceEq, beq_self_eq_true, Int.reducePow, Nat.reducePow, Int.reduceDiv, Nat.reduceLeDiff, reduceCtorEq, Tryz.f4, Tryz.results4, bC341]
  refine few_W hw ?_
  cases hg : fewB o
  · simp -dsimp -failIfUnchanged (maxSteps := 2000000) (disch := omega) only [VA, if_true_, if_false_, reduceIte, Nat.reduceEqDiff, Nat.reduceAdd, Nat.reduceMul, Nat.reduceSub, Int.reduceToNat, Int.reduceAdd, Int.reduceNeg, Int.reduceSub, Int.reduceMul, Int.reduceBEq, Int.reduceBNe, Int.reduceLT, Int.reduceLE, Int.reduceEq, beq_self_eq_true, Int.reducePow, Nat.reducePow, Int.reduceDiv, Nat.reduceLeDiff, reduceCtorEq, Tryz.f4, Tryz.results4, bC341]
    refine awake_W hB fun H' hle => ?_
    simp -dsimp -failIfUnchanged (maxSteps := 2000000) (disch := omega) only [VA, if_true_, if_false_, reduceIte, Nat.reduceEqDiff, Nat.reduceAdd, Nat.reduceMul, Nat.reduceSub, Int.reduceToNat, Int.reduceAdd, Int.reduceNeg, Int.reduceSub, Int.reduceMul, Int.reduceBEq, Int.reduceBNe, Int.reduceLT, Int.reduceLE, Int.reduceEq, beq_self_eq_true, Int.reducePow, Nat.reducePow, Int.reduceDiv, Nat.reduceLeDiff, reduceCtorEq, Tryz.f4, Tryz.results4, bC341]
    exact h H' hle
  obtain ⟨hl1, hl2⟩ := fewB_all hf
  obtain ⟨ho1, ho2'⟩ := fewB_all hg
  simp -dsimp -failIfUnchanged (maxSteps := 2000000) (disch := omega) only [VA, if_true_, if_false_, reduceIte, Nat.reduceEqDiff, Nat.reduceAdd, Nat.reduceMul, Nat.reduceSub, Int.reduceToNat, Int.reduceAdd, Int.reduceNeg, Int.reduceSub, Int.reduceMul, Int.reduceBEq, Int.reduceBNe, Int.reduceLT, Int.reduceLE, Int.reduceEq, beq_self_eq_true, Int.reducePow, Nat.reducePow, Int.reduceDiv, Nat.reduceLeDiff, reduceCtorEq, Tryz.f4, Tryz.results4, bC341]
  refine loop_enter (loop_ind ?_ (fun (m : Nat) e1 H1 => e1.ds = [] ∧ e1 0 = .slice a0 l.length c ∧ e1 1 = .slice a1 o.length c1 ∧ e1 6 = .int .i64 ((m : Int) - 1) ∧ m ≤ l.length ∧ ∃ v, e1 5 = v ∧ OwnV 5 H v (l.length - m) ((l.drop m).reverse.flatMap ActD.cells) H1) (fun m => m) ?_ l.length _ _ ?_)
  · decide +kernel
  rotate_left
  · simp -dsimp -failIfUnchanged (maxSteps := 2000000) (disch := omega) only [VA, if_true_, if_false_, reduceIte, Nat.reduceEqDiff, Nat.reduceAdd, Nat.reduceMul, Nat.reduceSub, Int.reduceToNat, Int.reduceAdd, Int.reduceNeg, Int.reduceSub, Int.reduceMul, Int.reduceBEq, Int.reduceBNe, Int.reduceLT, Int.reduceLE, Int.reduceEq, beq_self_eq_true, Int.reducePow, Nat.reducePow, Int.reduceDiv, Nat.reduceLeDiff, reduceCtorEq, Tryz.f4, Tryz.results4, bC341]
    refine ⟨trivial, trivial, trivial, ?_, ?_, _, rfl, ?_⟩
    · first | trivial | rfl
    · first | trivial | exact Nat.le_refl _
    · rw [Nat.sub_self, List.drop_length]; exact OwnV.nil
  rintro m e1 H1 ⟨d0, d1, d2, d3, hm, v, d4, hov⟩ ih
  obtain ⟨va, vc, rfl⟩ := hov.src.slice
  have hle1 := hov.le
  cases m with
  | succ m =>
    have q1 : decide ((0 : Int) ≤ ((m + 1 : Nat) : Int) - 1) = true := decide_eq_true (by omega)
    have hidx : (((m + 1 : Nat) : Int) - 1) = (m : Int) := by omega
    rw [hidx] at q1 d3
    obtain ⟨b1, o1, c', hab, hrd⟩ := (hv.le hle1).v.block (by omega) (by decide)
    cases hab
    obtain ⟨a, ha⟩ : ∃ a, l[m]? = some a := ⟨l[m], by simp⟩
    have r0 := flat_read ActD.cells_len hrd ha (k := 0) (m := 5) (ws := a.cells) (by decide) rfl
    rw [Nat.add_zero] at r0
    have r0' : H1.read ⟨b1, o1 + m * 5, none⟩ 5 = some [.int .i64 a.e, a.sv, .slice a.sa a.ns a.sc, .string (bs a.name), .int .i64 a.n] := r0
    simp -dsimp -failIfUnchanged (maxSteps := 2000000) (disch := omega) only [VA, if_true_, if_false_, reduceIte, Nat.reduceEqDiff, Nat.reduceAdd, Nat.reduceMul, Nat.reduceSub, Int.reduceToNat, Int.reduceAdd, Int.reduceNeg, Int.reduceSub, Int.reduceMul, Int.reduceBEq, Int.reduceBNe, Int.reduceLT, Int.reduceLE, Int.reduceEq, beq_self_eq_true, Int.reducePow, Nat.reducePow, Int.reduceDiv, Nat.reduceLeDiff, reduceCtorEq, Tryz.f4, Tryz.results4, bC341, d0, d1, d2, d3, d4, q1, r0', Int.toNat_natCast, Nat.add_zero]
    refine semW_build ?_
    simp -dsimp -failIfUnchanged (maxSteps := 2000000) (disch := omega) only [VA, if_true_, if_false_, reduceIte, Nat.reduceEqDiff, Nat.reduceAdd, Nat.reduceMul, Nat.reduceSub, Int.reduceToNat, Int.reduceAdd, Int.reduceNeg, Int.reduceSub, Int.reduceMul, Int.reduceBEq, Int.reduceBNe, Int.reduceLT, Int.reduceLE, Int.reduceEq, beq_self_eq_true, Int.reducePow, Nat.reducePow, Int.reduceDiv, Nat.reduceLeDiff, reduceCtorEq, Tryz.f4, Tryz.results4, bC341, d0, d1, d2, d3, d4]
    refine build_W (cs := a.cells) einf22 rfl (by decide) ?_ fun y hy => ?_
    · simp -dsimp -failIfUnchanged (maxSteps := 2000000) (disch := omega) only [VA, if_true_, if_false_, reduceIte, Nat.reduceEqDiff, Nat.reduceAdd, Nat.reduceMul, Nat.reduceSub, Int.reduceToNat, Int.reduceAdd, Int.reduceNeg, Int.reduceSub, Int.reduceMul, Int.reduceBEq, Int.reduceBNe, Int.reduceLT, Int.reduceLE, Int.reduceEq, beq_self_eq_true, Int.reducePow, Nat.reducePow, Int.reduceDiv, Nat.reduceLeDiff, reduceCtorEq, Tryz.f4, Tryz.results4, bC341, zerosL]
      rfl
    simp -dsimp -failIfUnchanged (maxSteps := 2000000) (disch := omega) only [VA, if_true_, if_false_, reduceIte, Nat.reduceEqDiff, Nat.reduceAdd, Nat.reduceMul, Nat.reduceSub, Int.reduceToNat, Int.reduceAdd, Int.reduceNeg, Int.reduceSub, Int.reduceMul, Int.reduceBEq, Int.reduceBNe, Int.reduceLT, Int.reduceLE, Int.reduceEq, beq_self_eq_true, Int.reducePow, Nat.reducePow, Int.reduceDiv, Nat.reduceLeDiff, reduceCtorEq, Tryz.f4, Tryz.results4, bC341, d0, d1, d2, d3, d4]
    refine semW_append ?_
    simp -dsimp -failIfUnchanged (maxSteps := 2000000) (disch := omega) only [VA, if_true_, if_false_, reduceIte, Nat.reduceEqDiff, Nat.reduceAdd, Nat.reduceMul, Nat.reduceSub, Int.reduceToNat, Int.reduceAdd, Int.reduceNeg, Int.reduceSub, Int.reduceMul, Int.reduceBEq, Int.reduceBNe, Int.reduceLT, Int.reduceLE, Int.reduceEq, beq_self_eq_true, Int.reducePow, Nat.reducePow, Int.reduceDiv, Nat.reduceLeDiff, reduceCtorEq, Tryz.f4, Tryz.results4, bC341, d0, d1, d2, d3, d4]
    have haa := hv.a a (List.mem_of_getElem? ha)
    obtain ⟨sa1, sc1, hsv⟩ := haa.1.slice
    refine append_own einf22 (by decide) rfl (hov.upd hy _) (OwnV.new (n := 5) (l := 1) (cs := a.cells) hy rfl).src (by rw [ActD.cells, hsv]; rfl) (by omega) (by omega) fun v' H' ho3 => ?_
    obtain ⟨H2, ho4, hle2⟩ := ho3.base (Mem.le_upd (le_none hle1 hy) _)
    simp -dsimp -failIfUnchanged (maxSteps := 2000000) (disch := omega) only [VA, if_true_, if_false_, reduceIte, Nat.reduceEqDiff, Nat.reduceAdd, Nat.reduceMul, Nat.reduceSub, Int.reduceToNat, Int.reduceAdd, Int.reduceNeg, Int.reduceSub, Int.reduceMul, Int.reduceBEq, Int.reduceBNe, Int.reduceLT, Int.reduceLE, Int.reduceEq, beq_self_eq_true, Int.reducePow, Nat.reducePow, Int.reduceDiv, Nat.reduceLeDiff, reduceCtorEq, Tryz.f4, Tryz.results4, bC341, d0, d1, d2, d3, d4]
    refine LoopW.from hle2 (ih m _ _ ?_ (by omega))
    simp -dsimp -failIfUnchanged (maxSteps := 2000000) (disch := omega) only [VA, if_true_, if_false_, reduceIte, Nat.reduceEqDiff, Nat.reduceAdd, Nat.reduceMul, Nat.reduceSub, Int.reduceToNat, Int.reduceAdd, Int.reduceNeg, Int.reduceSub, Int.reduceMul, Int.reduceBEq, Int.reduceBNe, Int.reduceLT, Int.reduceLE, Int.reduceEq, beq_self_eq_true, Int.reducePow, Nat.reducePow, Int.reduceDiv, Nat.reduceLeDiff, reduceCtorEq, Tryz.f4, Tryz.results4, bC341, d0, d1, d2, d3, d4]
    refine ⟨trivial, trivial, trivial, ?_, by omega, v', rfl, ?_⟩
    · first | trivial | rfl
    · have e1 : (l.drop m).reverse.flatMap ActD.cells = (l.drop (m + 1)).reverse.flatMap ActD.cells ++ a.cells := by
        rw [List.drop_eq_getElem_cons (by omega), List.reverse_cons, List.flatMap_append, (List.getElem?_eq_some_iff.1 ha).2]; simp
      rw [e1, show l.length - m = l.length - (m + 1) + 1 from by omega]
      exact ho4
  | zero =>
    have q1 : decide ((0 : Int) ≤ ((0 : Nat) : Int) - 1) = false := by decide
    rw [Nat.sub_zero, List.drop_zero] at hov
    simp -dsimp -failIfUnchanged (maxSteps := 2000000) (disch := omega) only [VA, if_true_, if_false_, reduceIte, Nat.reduceEqDiff, Nat.reduceAdd, Nat.reduceMul, Nat.reduceSub, Int.reduceToNat, Int.reduceAdd, Int.reduceNeg, Int.reduceSub, Int.reduceMul, Int.reduceBEq, Int.reduceBNe, Int.reduceLT, Int.reduceLE, Int.reduceEq, beq_self_eq_true, Int.reducePow, Nat.reducePow, Int.reduceDiv, Nat.reduceLeDiff, reduceCtorEq, Tryz.f4, Tryz.results4, bC341, d0, d1, d2, d3, d4, q1]
    refine semW_build ?_
    simp -dsimp -failIfUnchanged (maxSteps := 2000000) (disch := omega) only [VA, if_true_, if_false_, reduceIte, Nat.reduceEqDiff, Nat.reduceAdd, Nat.reduceMul, Nat.reduceSub, Int.reduceToNat, Int.reduceAdd, Int.reduceNeg, Int.reduceSub, Int.reduceMul, Int.reduceBEq, Int.reduceBNe, Int.reduceLT, Int.reduceLE, Int.reduceEq, beq_self_eq_true, Int.reducePow, Nat.reducePow, Int.reduceDiv, Nat.reduceLeDiff, reduceCtorEq, Tryz.f4, Tryz.results4, bC341, d0, d1, d2, d3, d4]
    refine build_W (cs := []) einf22 rfl (by decide) ?_ fun y hy => ?_
    · simp -dsimp -failIfUnchanged (maxSteps := 2000000) (disch := omega) only [VA, if_true_, if_false_, reduceIte, Nat.reduceEqDiff, Nat.reduceAdd, Nat.reduceMul, Nat.reduceSub, Int.reduceToNat, Int.reduceAdd, Int.reduceNeg, Int.reduceSub, Int.reduceMul, Int.reduceBEq, Int.reduceBNe, Int.reduceLT, Int.reduceLE, Int.reduceEq, beq_self_eq_true, Int.reducePow, Nat.reducePow, Int.reduceDiv, Nat.reduceLeDiff, reduceCtorEq, Tryz.f4, Tryz.results4, bC341, zerosL]
    simp -dsimp -failIfUnchanged (maxSteps := 2000000) (disch := omega) only [VA, if_true_, if_false_, reduceIte, Nat.reduceEqDiff, Nat.reduceAdd, Nat.reduceMul, Nat.reduceSub, Int.reduceToNat, Int.reduceAdd, Int.reduceNeg, Int.reduceSub, Int.reduceMul, Int.reduceBEq, Int.reduceBNe, Int.reduceLT, Int.reduceLE, Int.reduceEq, beq_self_eq_true, Int.reducePow, Nat.reducePow, Int.reduceDiv, Nat.reduceLeDiff, reduceCtorEq, Tryz.f4, Tryz.results4, bC341, d0, d1, d2, d3, d4]
    have hle2 := Mem.le_trans hle1 (Mem.le_upd hy ⟨true, ([] : List Value).length, []⟩)
    have one_all : ∀ (l : List ActD), (∀ a ∈ l, ∃ a1 c1, a.sv = .slice a1 a.said.length c1) → (l.flatMap ActD.cells).all one = true := fun l h => by
      rw [List.all_eq_true]
      intro x hx
      obtain ⟨a, ha, hx⟩ := List.mem_flatMap.1 hx
      obtain ⟨a1, c1, h1⟩ := h a ha
      simp only [ActD.cells, h1, List.mem_cons, List.not_mem_nil, or_false] at hx
      rcases hx with rfl | rfl | rfl | rfl | rfl <;> rfl
    refine semW_append ?_
    simp -dsimp -failIfUnchanged (maxSteps := 2000000) (disch := omega) only [VA, if_true_, if_false_, reduceIte, Nat.reduceEqDiff, Nat.reduceAdd, Nat.reduceMul, Nat.reduceSub, Int.reduceToNat, Int.reduceAdd, Int.reduceNeg, Int.reduceSub, Int.reduceMul, Int.reduceBEq, Int.reduceBNe, Int.reduceLT, Int.reduceLE, Int.reduceEq, beq_self_eq_true, Int.reducePow, Nat.reducePow, Int.reduceDiv, Nat.reduceLeDiff, reduceCtorEq, Tryz.f4, Tryz.results4, bC341, d0, d1, d2, d3, d4]
    refine append_own einf22 (by decide) rfl (OwnV.new (n := 5) (l := 0) (cs := []) hy rfl) (hv.le hle2).v (one_all l fun a ha => (hv.a a ha).1.slice) (by omega) (by omega) fun v2 H2 ho2 => ?_
    simp -dsimp -failIfUnchanged (maxSteps := 2000000) (disch := omega) only [VA, if_true_, if_false_, reduceIte, Nat.reduceEqDiff, Nat.reduceAdd, Nat.reduceMul, Nat.reduceSub, Int.reduceToNat, Int.reduceAdd, Int.reduceNeg, Int.reduceSub, Int.reduceMul, Int.reduceBEq, Int.reduceBNe, Int.reduceLT, Int.reduceLE, Int.reduceEq, beq_self_eq_true, Int.reducePow, Nat.reducePow, Int.reduceDiv, Nat.reduceLeDiff, reduceCtorEq, Tryz.f4, Tryz.results4, bC341, d0, d1, d2, d3, d4]
    refine semW_append ?_
    simp -dsimp -failIfUnchanged (maxSteps := 2000000) (disch := omega) only [VA, if_true_, if_false_, reduceIte, Nat.reduceEqDiff, Nat.reduceAdd, Nat.reduceMul, Nat.reduceSub, Int.reduceToNat, Int.reduceAdd, Int.reduceNeg, Int.reduceSub, Int.reduceMul, Int.reduceBEq, Int.reduceBNe, Int.reduceLT, Int.reduceLE, Int.reduceEq, beq_self_eq_true, Int.reducePow, Nat.reducePow, Int.reduceDiv, Nat.reduceLeDiff, reduceCtorEq, Tryz.f4, Tryz.results4, bC341, d0, d1, d2, d3, d4]
    refine append_own einf22 (by decide) rfl ho2 (hw.le (Mem.le_trans hle1 ho2.le)).v (one_all o fun a ha => (hw.a a ha).1.slice) (by omega) (by omega) fun v3 H3 ho3 => ?_
    have hle3 := Mem.le_trans hle1 ho3.le
    have hvr : ActsAt H3 (.slice va l.length vc) l.reverse := (ActsAt.own (l := l.reverse) (by rw [List.length_reverse]; exact hov) (fun a ha => hv.a a (by simpa using ha))).le ho3.le
    have hvb : ActsAt H3 v3 (l ++ o) := by
      refine ActsAt.own (H0 := H1) (l := l ++ o) ?_ ?_
      · rw [List.length_append, List.flatMap_append]
        have := ho3
        rw [List.nil_append, Nat.zero_add] at this
        exact this
      · intro a ha
        rcases List.mem_append.1 ha with ha | ha
        · exact (hv.le hle1).a a ha
        · exact (hw.le hle1).a a ha
    have hal : ∀ a ∈ l.reverse, a.few = true := fun a ha => hl2 a (by simpa using ha)
    have hbo : ∀ a ∈ l ++ o, a.few = true := fun a ha => by
      rcases List.mem_append.1 ha with ha | ha
      · exact hl2 a ha
      · exact ho2' a ha
    simp -dsimp -failIfUnchanged (maxSteps := 2000000) (disch := omega) only [VA, if_true_, if_false_, reduceIte, Nat.reduceEqDiff, Nat.reduceAdd, Nat.reduceMul, Nat.reduceSub, Int.reduceToNat, Int.reduceAdd, Int.reduceNeg, Int.reduceSub, Int.reduceMul, Int.reduceBEq, Int.reduceBNe, Int.reduceLT, Int.reduceLE, Int.reduceEq, beq_self_eq_true, Int.reducePow, Nat.reducePow, Int.reduceDiv, Nat.reduceLeDiff, reduceCtorEq, Tryz.f4, Tryz.results4, bC341, d0, d1, d2, d3, d4]
    refine count_all (Ts := []) ⟨hle3, by simp, by simp, by simp, by simp⟩ (hB.le hle3) (hv.le hle3) (by omega) hl2 fun ba Ha hla hTa => ?_
    simp -dsimp -failIfUnchanged (maxSteps := 2000000) (disch := omega) only [VA, if_true_, if_false_, reduceIte, Nat.reduceEqDiff, Nat.reduceAdd, Nat.reduceMul, Nat.reduceSub, Int.reduceToNat, Int.reduceAdd, Int.reduceNeg, Int.reduceSub, Int.reduceMul, Int.reduceBEq, Int.reduceBNe, Int.reduceLT, Int.reduceLE, Int.reduceEq, beq_self_eq_true, Int.reducePow, Nat.reducePow, Int.reduceDiv, Nat.reduceLeDiff, reduceCtorEq, Tryz.f4, Tryz.results4, bC341, d0, d1, d2, d3, d4]
    refine count_all hTa (hB.le hTa.le) (hvr.le hla) (by simp; omega) hal fun bb Hb hlb hTb => ?_
    simp -dsimp -failIfUnchanged (maxSteps := 2000000) (disch := omega) only [VA, if_true_, if_false_, reduceIte, Nat.reduceEqDiff, Nat.reduceAdd, Nat.reduceMul, Nat.reduceSub, Int.reduceToNat, Int.reduceAdd, Int.reduceNeg, Int.reduceSub, Int.reduceMul, Int.reduceBEq, Int.reduceBNe, Int.reduceLT, Int.reduceLE, Int.reduceEq, beq_self_eq_true, Int.reducePow, Nat.reducePow, Int.reduceDiv, Nat.reduceLeDiff, reduceCtorEq, Tryz.f4, Tryz.results4, bC341, d0, d1, d2, d3, d4]
    refine count_all hTb (hB.le hTb.le) (hvb.le (Mem.le_trans hla hlb)) (by simp; omega) hbo fun bc Hc hlc hTc => ?_
    simp -dsimp -failIfUnchanged (maxSteps := 2000000) (disch := omega) only [VA, if_true_, if_false_, reduceIte, Nat.reduceEqDiff, Nat.reduceAdd, Nat.reduceMul, Nat.reduceSub, Int.reduceToNat, Int.reduceAdd, Int.reduceNeg, Int.reduceSub, Int.reduceMul, Int.reduceBEq, Int.reduceBNe, Int.reduceLT, Int.reduceLE, Int.reduceEq, beq_self_eq_true, Int.reducePow, Nat.reducePow, Int.reduceDiv, Nat.reduceLeDiff, reduceCtorEq, Tryz.f4, Tryz.results4, bC341, d0, d1, d2, d3, d4]
    refine count_all hTc (hB.le hTc.le) (hw.le hTc.le) (by omega) ho2' fun bd Hd hld hTd => ?_
    simp -dsimp -failIfUnchanged (maxSteps := 2000000) (disch := omega) only [VA, if_true_, if_false_, reduceIte, Nat.reduceEqDiff, Nat.reduceAdd, Nat.reduceMul, Nat.reduceSub, Int.reduceToNat, Int.reduceAdd, Int.reduceNeg, Int.reduceSub, Int.reduceMul, Int.reduceBEq, Int.reduceBNe, Int.reduceLT, Int.reduceLE, Int.reduceEq, beq_self_eq_true, Int.reducePow, Nat.reducePow, Int.reduceDiv, Nat.reduceLeDiff, reduceCtorEq, Tryz.f4, Tryz.results4, bC341, d0, d1, d2, d3, d4]
    refine count_all hTd (hB.le hTd.le) (hv.le hTd.le) (by omega) hl2 fun be He hle hTe => ?_
    simp -dsimp -failIfUnchanged (maxSteps := 2000000) (disch := omega) only [VA, if_true_, if_false_, reduceIte, Nat.reduceEqDiff, Nat.reduceAdd, Nat.reduceMul, Nat.reduceSub, Int.reduceToNat, Int.reduceAdd, Int.reduceNeg, Int.reduceSub, Int.reduceMul, Int.reduceBEq, Int.reduceBNe, Int.reduceLT, Int.reduceLE, Int.reduceEq, beq_self_eq_true, Int.reducePow, Nat.reducePow, Int.reduceDiv, Nat.reduceLeDiff, reduceCtorEq, Tryz.f4, Tryz.results4, bC341, d0, d1, d2, d3, d4, Option.isNone_some]
    have nd := hTe.nd
    simp only [List.map_cons, List.map_nil, List.nodup_cons, List.mem_cons, List.not_mem_nil, or_false, not_or, not_false_eq_true, List.nodup_nil, and_true] at nd
    obtain ⟨⟨n1, n2, n3, n4⟩, ⟨n5, n6, n7⟩, ⟨n8, n9⟩, n10⟩ := nd
    refine joinT_W (hTe.t (ba, countL l) (by simp)) (hTe.t (bd, countL o) (by simp)) n7 (hTe.p (ba, countL l) (by simp)) (hTe.p (bd, countL o) (by simp)) fun Hf hbf hTf _ => ?_
    have hTs : Tals H Hf [(be, countL l), (bd, countL o), (bc, countL (l ++ o)), (bb, countL l.reverse), (ba, joinL (countL l) (countL o))] :=
      hTe.set (b := ba) (cs := countL l) (by simp) hbf hTf rfl (by simp [n4, n7, n9, n10])
    simp -dsimp -failIfUnchanged (maxSteps := 2000000) (disch := omega) only [VA, if_true_, if_false_, reduceIte, Nat.reduceEqDiff, Nat.reduceAdd, Nat.reduceMul, Nat.reduceSub, Int.reduceToNat, Int.reduceAdd, Int.reduceNeg, Int.reduceSub, Int.reduceMul, Int.reduceBEq, Int.reduceBNe, Int.reduceLT, Int.reduceLE, Int.reduceEq, beq_self_eq_true, Int.reducePow, Nat.reducePow, Int.reduceDiv, Nat.reduceLeDiff, reduceCtorEq, Tryz.f4, Tryz.results4, bC341, d0, d1, d2, d3, d4, Option.isNone_some]
    refine joinT_W (hTs.t (bd, countL o) (by simp)) (hTs.t (be, countL l) (by simp)) n1 (hTs.p (bd, countL o) (by simp)) (hTs.p (be, countL l) (by simp)) fun Hg hbg hTg _ => ?_
    have hTr : Tals H Hg [(be, countL l), (bd, joinL (countL o) (countL l)), (bc, countL (l ++ o)), (bb, countL l.reverse), (ba, joinL (countL l) (countL o))] :=
      hTs.set (b := bd) (cs := countL o) (by simp) hbg hTg rfl (by simp [n1, Ne.symm n5, Ne.symm n6, Ne.symm n7])
    simp -dsimp -failIfUnchanged (maxSteps := 2000000) (disch := omega) only [VA, if_true_, if_false_, reduceIte, Nat.reduceEqDiff, Nat.reduceAdd, Nat.reduceMul, Nat.reduceSub, Int.reduceToNat, Int.reduceAdd, Int.reduceNeg, Int.reduceSub, Int.reduceMul, Int.reduceBEq, Int.reduceBNe, Int.reduceLT, Int.reduceLE, Int.reduceEq, beq_self_eq_true, Int.reducePow, Nat.reducePow, Int.reduceDiv, Nat.reduceLeDiff, reduceCtorEq, Tryz.f4, Tryz.results4, bC341, d0, d1, d2, d3, d4, Option.isNone_some]
    refine loop_enter (loop_ind ?_ (fun (i : Nat) e2 H4 => e2.ds = [] ∧ e2 8 = .pointer (some ⟨ba, 0, none⟩) ∧ e2 9 = .pointer (some ⟨bb, 0, none⟩) ∧ e2 10 = .pointer (some ⟨bc, 0, none⟩) ∧ e2 11 = .pointer (some ⟨bd, 0, none⟩) ∧ e2 12 = .pointer (some ⟨be, 0, none⟩) ∧ e2 13 = .int .i64 i ∧ i ≤ 12 ∧
        Tals H H4 [(be, countL l), (bd, joinL (countL o) (countL l)), (bc, countL (l ++ o)), (bb, countL l.reverse), (ba, joinL (countL l) (countL o))]) (fun i => 12 - i) ?_ 0 _ _ ?_)
    · decide +kernel
    rotate_left
    · simp -dsimp -failIfUnchanged (maxSteps := 2000000) (disch := omega) only [VA, if_true_, if_false_, reduceIte, Nat.reduceEqDiff, Nat.reduceAdd, Nat.reduceMul, Nat.reduceSub, Int.reduceToNat, Int.reduceAdd, Int.reduceNeg, Int.reduceSub, Int.reduceMul, Int.reduceBEq, Int.reduceBNe, Int.reduceLT, Int.reduceLE, Int.reduceEq, beq_self_eq_true, Int.reducePow, Nat.reducePow, Int.reduceDiv, Nat.reduceLeDiff, reduceCtorEq, Tryz.f4, Tryz.results4, bC341, d0, d1, d2, d3, d4]
      refine ⟨trivial, trivial, trivial, trivial, trivial, trivial, ?_, ?_, hTr⟩ <;> first | trivial | rfl | omega
    rintro i e2 H4 ⟨g0, g1, g2, g3, g4, g5, g6, hi, hT4⟩ ih2
    by_cases hi12 : i < 12
    · have q2 : decide ((i : Int) < 12) = true := decide_eq_true (by omega)
      simp -dsimp -failIfUnchanged (maxSteps := 2000000) (disch := omega) only [VA, if_true_, if_false_, reduceIte, Nat.reduceEqDiff, Nat.reduceAdd, Nat.reduceMul, Nat.reduceSub, Int.reduceToNat, Int.reduceAdd, Int.reduceNeg, Int.reduceSub, Int.reduceMul, Int.reduceBEq, Int.reduceBNe, Int.reduceLT, Int.reduceLE, Int.reduceEq, beq_self_eq_true, Int.reducePow, Nat.reducePow, Int.reduceDiv, Nat.reduceLeDiff, reduceCtorEq, Tryz.f4, Tryz.results4, bC341, g0, g1, g2, g3, g4, g5, g6, q2]
      refine nameR_W hi12 ?_
      simp -dsimp -failIfUnchanged (maxSteps := 2000000) (disch := omega) only [VA, if_true_, if_false_, reduceIte, Nat.reduceEqDiff, Nat.reduceAdd, Nat.reduceMul, Nat.reduceSub, Int.reduceToNat, Int.reduceAdd, Int.reduceNeg, Int.reduceSub, Int.reduceMul, Int.reduceBEq, Int.reduceBNe, Int.reduceLT, Int.reduceLE, Int.reduceEq, beq_self_eq_true, Int.reducePow, Nat.reducePow, Int.reduceDiv, Nat.reduceLeDiff, reduceCtorEq, Tryz.f4, Tryz.results4, bC341, g0, g1, g2, g3, g4, g5, g6]
      refine get_all hT4 (b := bb) (cs := countL l.reverse) (by simp) fun H5 hT5 => ?_
      rw [get_name hi12, count_reverse hi12]
      simp -dsimp -failIfUnchanged (maxSteps := 2000000) (disch := omega) only [VA, if_true_, if_false_, reduceIte, Nat.reduceEqDiff, Nat.reduceAdd, Nat.reduceMul, Nat.reduceSub, Int.reduceToNat, Int.reduceAdd, Int.reduceNeg, Int.reduceSub, Int.reduceMul, Int.reduceBEq, Int.reduceBNe, Int.reduceLT, Int.reduceLE, Int.reduceEq, beq_self_eq_true, Int.reducePow, Nat.reducePow, Int.reduceDiv, Nat.reduceLeDiff, reduceCtorEq, Tryz.f4, Tryz.results4, bC341, g0, g1, g2, g3, g4, g5, g6]
      refine get_all hT5 (b := be) (cs := countL l) (by simp) fun H6 hT6 => ?_
      rw [get_name hi12]
      simp -dsimp -failIfUnchanged (maxSteps := 2000000) (disch := omega) only [VA, if_true_, if_false_, reduceIte, Nat.reduceEqDiff, Nat.reduceAdd, Nat.reduceMul, Nat.reduceSub, Int.reduceToNat, Int.reduceAdd, Int.reduceNeg, Int.reduceSub, Int.reduceMul, Int.reduceBEq, Int.reduceBNe, Int.reduceLT, Int.reduceLE, Int.reduceEq, beq_self_eq_true, Int.reducePow, Nat.reducePow, Int.reduceDiv, Nat.reduceLeDiff, reduceCtorEq, Tryz.f4, Tryz.results4, bC341, g0, g1, g2, g3, g4, g5, g6, _root_.bne]
      refine get_all hT6 (b := ba) (cs := joinL (countL l) (countL o)) (by simp) fun H7 hT7 => ?_
      rw [get_name hi12, join_count hi12]
      simp -dsimp -failIfUnchanged (maxSteps := 2000000) (disch := omega) only [VA, if_true_, if_false_, reduceIte, Nat.reduceEqDiff, Nat.reduceAdd, Nat.reduceMul, Nat.reduceSub, Int.reduceToNat, Int.reduceAdd, Int.reduceNeg, Int.reduceSub, Int.reduceMul, Int.reduceBEq, Int.reduceBNe, Int.reduceLT, Int.reduceLE, Int.reduceEq, beq_self_eq_true, Int.reducePow, Nat.reducePow, Int.reduceDiv, Nat.reduceLeDiff, reduceCtorEq, Tryz.f4, Tryz.results4, bC341, g0, g1, g2, g3, g4, g5, g6, _root_.bne]
      refine get_all hT7 (b := bc) (cs := countL (l ++ o)) (by simp) fun H8 hT8 => ?_
      rw [get_name hi12]
      simp -dsimp -failIfUnchanged (maxSteps := 2000000) (disch := omega) only [VA, if_true_, if_false_, reduceIte, Nat.reduceEqDiff, Nat.reduceAdd, Nat.reduceMul, Nat.reduceSub, Int.reduceToNat, Int.reduceAdd, Int.reduceNeg, Int.reduceSub, Int.reduceMul, Int.reduceBEq, Int.reduceBNe, Int.reduceLT, Int.reduceLE, Int.reduceEq, beq_self_eq_true, Int.reducePow, Nat.reducePow, Int.reduceDiv, Nat.reduceLeDiff, reduceCtorEq, Tryz.f4, Tryz.results4, bC341, g0, g1, g2, g3, g4, g5, g6, _root_.bne]
      refine get_all hT8 (b := bd) (cs := joinL (countL o) (countL l)) (by simp) fun H9 hT9 => ?_
      rw [get_name hi12, join_count' hi12]
      simp -dsimp -failIfUnchanged (maxSteps := 2000000) (disch := omega) only [VA, if_true_, if_false_, reduceIte, Nat.reduceEqDiff, Nat.reduceAdd, Nat.reduceMul, Nat.reduceSub, Int.reduceToNat, Int.reduceAdd, Int.reduceNeg, Int.reduceSub, Int.reduceMul, Int.reduceBEq, Int.reduceBNe, Int.reduceLT, Int.reduceLE, Int.reduceEq, beq_self_eq_true, Int.reducePow, Nat.reducePow, Int.reduceDiv, Nat.reduceLeDiff, reduceCtorEq, Tryz.f4, Tryz.results4, bC341, g0, g1, g2, g3, g4, g5, g6, _root_.bne]
      refine get_all hT9 (b := bc) (cs := countL (l ++ o)) (by simp) fun Ha2 hTa2 => ?_
      rw [get_name hi12]
      simp -dsimp -failIfUnchanged (maxSteps := 2000000) (disch := omega) only [VA, if_true_, if_false_, reduceIte, Nat.reduceEqDiff, Nat.reduceAdd, Nat.reduceMul, Nat.reduceSub, Int.reduceToNat, Int.reduceAdd, Int.reduceNeg, Int.reduceSub, Int.reduceMul, Int.reduceBEq, Int.reduceBNe, Int.reduceLT, Int.reduceLE, Int.reduceEq, beq_self_eq_true, Int.reducePow, Nat.reducePow, Int.reduceDiv, Nat.reduceLeDiff, reduceCtorEq, Tryz.f4, Tryz.results4, bC341, g0, g1, g2, g3, g4, g5, g6, _root_.bne]
      refine ih2 (i + 1) _ _ ?_ (by omega)
      simp -dsimp -failIfUnchanged (maxSteps := 2000000) (disch := omega) only [VA, if_true_, if_false_, reduceIte, Nat.reduceEqDiff, Nat.reduceAdd, Nat.reduceMul, Nat.reduceSub, Int.reduceToNat, Int.reduceAdd, Int.reduceNeg, Int.reduceSub, Int.reduceMul, Int.reduceBEq, Int.reduceBNe, Int.reduceLT, Int.reduceLE, Int.reduceEq, beq_self_eq_true, Int.reducePow, Nat.reducePow, Int.reduceDiv, Nat.reduceLeDiff, reduceCtorEq, Tryz.f4, Tryz.results4, bC341, g0, g1, g2, g3, g4, g5, g6]
      exact ⟨trivial, trivial, trivial, trivial, trivial, trivial, by simp, by omega, hTa2⟩
    · have q2 : decide ((i : Int) < 12) = false := decide_eq_false (by omega)
      simp -dsimp -failIfUnchanged (maxSteps := 2000000) (disch := omega) only [VA, if_true_, if_false_, reduceIte, Nat.reduceEqDiff, Nat.reduceAdd, Nat.reduceMul, Nat.reduceSub, Int.reduceToNat, Int.reduceAdd, Int.reduceNeg, Int.reduceSub, Int.reduceMul, Int.reduceBEq, Int.reduceBNe, Int.reduceLT, Int.reduceLE, Int.reduceEq, beq_self_eq_true, Int.reducePow, Nat.reducePow, Int.reduceDiv, Nat.reduceLeDiff, reduceCtorEq, Tryz.f4, Tryz.results4, bC341, g0, g1, g2, g3, g4, g5, g6, q2]
      refine awake_W (hB.le hT4.le) fun H9 hle9 => ?_
      simp -dsimp -failIfUnchanged (maxSteps := 2000000) (disch := omega) only [VA, if_true_, if_false_, reduceIte, Nat.reduceEqDiff, Nat.reduceAdd, Nat.reduceMul, Nat.reduceSub, Int.reduceToNat, Int.reduceAdd, Int.reduceNeg, Int.reduceSub, Int.reduceMul, Int.reduceBEq, Int.reduceBNe, Int.reduceLT, Int.reduceLE, Int.reduceEq, beq_self_eq_true, Int.reducePow, Nat.reducePow, Int.reduceDiv, Nat.reduceLeDiff, reduceCtorEq, Tryz.f4, Tryz.results4, bC341, g0, g1, g2, g3, g4, g5, g6]
      exact h _ (Mem.le_trans hT4.le hle9)
end Go.Proofs.YtgkolnknobgcmaaGreat
end
