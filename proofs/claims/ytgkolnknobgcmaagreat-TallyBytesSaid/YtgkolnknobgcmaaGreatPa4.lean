import Derived.Laws.LoneSync
import Derived.Test.YtgkolnknobgcmaaGreatPa3
/-! C09, C10, C01, C11, C12, C13, C14, C15, C16, C17, C18, C19, C20, C21, C22, C23, C24, C25, C26, C27 -/
section
namespace Go.Proofs.YtgkolnknobgcmaaGreat
open Go Go.Proofs.YtgkolnknobgcmaaGreatV Go.Shelf
set_option maxRecDepth 20000
set_option linter.unusedSimpArgs false
set_option linter.unusedVariables false
set_option maxHeartbeats 4000000
theorem bC090 : type_of% @Tryz.underlying9 ∧ type_of% @ty9 ∧ type_of% @zero9 ∧ type_of% @Tryz.underlying277 ∧ type_of% @elt277 ∧ type_of% @fld277_0 ∧ type_of% @fld277_1 ∧ type_of% @fld277_2 ∧ type_of% @flds277 ∧ type_of% @ty277 ∧ type_of% @zero277 ∧ type_of% @Tryz.underlying319 ∧ type_of% @elt319 ∧ type_of% @flds319 ∧ type_of% @ty319 ∧ type_of% @zero319 ∧ type_of% @Tryz.ntmps210 := ⟨@Tryz.underlying9, @ty9, @zero9, @Tryz.underlying277, @elt277, @fld277_0, @fld277_1, @fld277_2, @flds277, @ty277, @zero277, @Tryz.underlying319, @elt319, @flds319, @ty319, @zero319, @Tryz.ntmps210⟩
theorem bC091 : type_of% @Tryz.underlying9 ∧ type_of% @ty9 ∧ type_of% @zero9 ∧ type_of% @Tryz.underlying277 ∧ type_of% @elt277 ∧ type_of% @fld277_0 ∧ type_of% @fld277_1 ∧ type_of% @fld277_2 ∧ type_of% @flds277 ∧ type_of% @ty277 ∧ type_of% @zero277 ∧ type_of% @Tryz.ntmps172 := ⟨@Tryz.underlying9, @ty9, @zero9, @Tryz.underlying277, @elt277, @fld277_0, @fld277_1, @fld277_2, @flds277, @ty277, @zero277, @Tryz.ntmps172⟩
theorem bC092 : type_of% @Tryz.underlying3 ∧ type_of% @ty3 ∧ type_of% @zero3 ∧ type_of% @Tryz.underlying9 ∧ type_of% @ty9 ∧ type_of% @zero9 ∧ type_of% @Tryz.ntmps69 := ⟨@Tryz.underlying3, @ty3, @zero3, @Tryz.underlying9, @ty9, @zero9, @Tryz.ntmps69⟩
theorem bC093 : type_of% @Tryz.underlying3 ∧ type_of% @ty3 ∧ type_of% @zero3 ∧ type_of% @Tryz.underlying9 ∧ type_of% @ty9 ∧ type_of% @zero9 ∧ type_of% @Tryz.underlying277 ∧ type_of% @elt277 ∧ type_of% @fld277_0 ∧ type_of% @fld277_1 ∧ type_of% @fld277_2 ∧ type_of% @flds277 ∧ type_of% @ty277 ∧ type_of% @zero277 ∧ type_of% @Tryz.underlying318 ∧ type_of% @elt318 ∧ type_of% @flds318 ∧ type_of% @ty318 ∧ type_of% @zero318 ∧ type_of% @Tryz.underlying319 ∧ type_of% @elt319 ∧ type_of% @flds319 ∧ type_of% @ty319 ∧ type_of% @zero319 ∧ type_of% @Tryz.ntmps195 := ⟨@Tryz.underlying3, @ty3, @zero3, @Tryz.underlying9, @ty9, @zero9, @Tryz.underlying277, @elt277, @fld277_0, @fld277_1, @fld277_2, @flds277, @ty277, @zero277, @Tryz.underlying318, @elt318, @flds318, @ty318, @zero318, @Tryz.underlying319, @elt319, @flds319, @ty319, @zero319, @Tryz.ntmps195⟩
variable {H : Mem} {K : Value → Mem → Prop}

def addrV (n h r : List UInt8) : Value := .agg #[.string (bs n), .string (bs h), .string (bs r)]
theorem parts_W {n p r : List UInt8} (h : K (addrV n p r) H) : InvW Tryz.prog 210 #[addrV n p r] H K := by
  refine InvW.weak ?_
  unfold addrV at h ⊢
  (refine invW_of_pw Tryz.func210 rfl rfl (by decide +kernel) (by simp [Tryz.f210]) ?_); simp -dsimp -failIfUnchanged (maxSteps := 2000000) (disch := omega) only [VA, if_true_, if_false_, reduceIte, Nat.reduceEqDiff, Nat.reduceAdd, Nat.reduceMul, Nat.reduceSub, Int.reduceToNat, Int.reduceAdd, Int.reduceNeg, Int.reduceSub, Int.reduceMul, Int.reduceBEq, Int.reduceBNe, Int.reduceLT, Int.reduceLE, Int.reduceEq, beq_self_eq_true, Int.reducePow, Nat.reducePow, Int.reduceDiv, Nat.reduceLeDiff, reduceCtorEq, Tryz.f210, Tryz.results210, bC090]
  intro a ha
  simp -dsimp -failIfUnchanged (maxSteps := 2000000) (disch := omega) only [VA, if_true_, if_false_, reduceIte, Nat.reduceEqDiff, Nat.reduceAdd, Nat.reduceMul, Nat.reduceSub, Int.reduceToNat, Int.reduceAdd, Int.reduceNeg, Int.reduceSub, Int.reduceMul, Int.reduceBEq, Int.reduceBNe, Int.reduceLT, Int.reduceLE, Int.reduceEq, beq_self_eq_true, Int.reducePow, Nat.reducePow, Int.reduceDiv, Nat.reduceLeDiff, reduceCtorEq, Tryz.f210, Tryz.results210, bC090]
  intro c hc
  have hne : c ≠ a := by rintro rfl; simp [Mem.upd] at hc
  simp -dsimp -failIfUnchanged (maxSteps := 2000000) (disch := omega) only [VA, if_true_, if_false_, reduceIte, Nat.reduceEqDiff, Nat.reduceAdd, Nat.reduceMul, Nat.reduceSub, Int.reduceToNat, Int.reduceAdd, Int.reduceNeg, Int.reduceSub, Int.reduceMul, Int.reduceBEq, Int.reduceBNe, Int.reduceLT, Int.reduceLE, Int.reduceEq, beq_self_eq_true, Int.reducePow, Nat.reducePow, Int.reduceDiv, Nat.reduceLeDiff, reduceCtorEq, Tryz.f210, Tryz.results210, bC090]
  exact ⟨H, Mem.le_upd' (Mem.le_upd ha _) hc _, h⟩
theorem text_W {n p r : List UInt8} (hs : n.length + p.length + r.length < 4294967281) (h : K (.string (bs (n ++ [64] ++ p ++ if r = [] then [] else 47 :: r))) H) : InvW Tryz.prog 172 #[addrV n p r] H K := by
  refine InvW.weak ?_
  unfold addrV
  have z1 := bs_size n; have z2 := bs_size p; have z3 := bs_size r
  have z4 : (bs [64]).size = 1 := rfl
  have z5 : (bs [47]).size = 1 := rfl
  have z6 : (bs (n ++ [64])).size = n.length + 1 := by rw [bs_size]; simp
  have z7 : (bs (n ++ [64] ++ p)).size = n.length + 1 + p.length := by rw [bs_size]; simp; omega
  have z8 : (bs (47 :: r)).size = 1 + r.length := by rw [bs_size]; simp; omega
  cases c1 : decide (r = [])
  · have c2 := of_decide_eq_false c1
    rw [if_neg c2] at h
    (refine invW_of_pw Tryz.func172 rfl rfl (by decide +kernel) (by simp [Tryz.f172]) ?_); simp -dsimp -failIfUnchanged (maxSteps := 2000000) (disch := omega) only [VA, if_true_, if_false_, reduceIte, Nat.reduceEqDiff, Nat.reduceAdd, Nat.reduceMul, Nat.reduceSub, Int.reduceToNat, Int.reduceAdd, Int.reduceNeg, Int.reduceSub, Int.reduceMul, Int.reduceBEq, Int.reduceBNe, Int.reduceLT, Int.reduceLE, Int.reduceEq, beq_self_eq_true, Int.reducePow, Nat.reducePow, Int.reduceDiv, Nat.reduceLeDiff, reduceCtorEq, Tryz.f172, Tryz.results172, bC091]
    intro a ha
    simp -dsimp -failIfUnchanged (maxSteps := 2000000) (disch := omega) only [VA, if_true_, if_false_, reduceIte, Nat.reduceEqDiff, Nat.reduceAdd, Nat.reduceMul, Nat.reduceSub, Int.reduceToNat, Int.reduceAdd, Int.reduceNeg, Int.reduceSub, Int.reduceMul, Int.reduceBEq, Int.reduceBNe, Int.reduceLT, Int.reduceLE, Int.reduceEq, beq_self_eq_true, Int.reducePow, Nat.reducePow, Int.reduceDiv, Nat.reduceLeDiff, reduceCtorEq, Tryz.f172, Tryz.results172, bC091, c1, _root_.bne]
    exact ⟨H, Mem.le_upd ha _, h⟩
  · have c2 := of_decide_eq_true c1
    rw [if_pos c2, List.append_nil] at h
    (refine invW_of_pw Tryz.func172 rfl rfl (by decide +kernel) (by simp [Tryz.f172]) ?_); simp -dsimp -failIfUnchanged (maxSteps := 2000000) (disch := omega) only [VA, if_true_, if_false_, reduceIte, Nat.reduceEqDiff, Nat.reduceAdd, Nat.reduceMul, Nat.reduceSub, Int.reduceToNat, Int.reduceAdd, Int.reduceNeg, Int.reduceSub, Int.reduceMul, Int.reduceBEq, Int.reduceBNe, Int.reduceLT, Int.reduceLE, Int.reduceEq, beq_self_eq_true, Int.reducePow, Nat.reducePow, Int.reduceDiv, Nat.reduceLeDiff, reduceCtorEq, Tryz.f172, Tryz.results172, bC091]
    intro a ha
    simp -dsimp -failIfUnchanged (maxSteps := 2000000) (disch := omega) only [VA, if_true_, if_false_, reduceIte, Nat.reduceEqDiff, Nat.reduceAdd, Nat.reduceMul, Nat.reduceSub, Int.reduceToNat, Int.reduceAdd, Int.reduceNeg, Int.reduceSub, Int.reduceMul, Int.reduceBEq, Int.reduceBNe, Int.reduceLT, Int.reduceLE, Int.reduceEq, beq_self_eq_true, Int.reducePow, Nat.reducePow, Int.reduceDiv, Nat.reduceLeDiff, reduceCtorEq, Tryz.f172, Tryz.results172, bC091, c1, _root_.bne]
    refine ⟨H, Mem.le_upd ha _, h⟩
def resE (s : List UInt8) : Int := if 12 < s.length then 5 else if plain s then 0 else 11
theorem resource_W {s : List UInt8} (hs : s.length < 4294967281) (h : K (.int .i64 (resE s)) H) : InvW Tryz.prog 69 #[.string (bs s)] H K := by
  unfold resE at h
  cases c1 : decide ((12 : Int) < s.length)
  · (refine invW_of_pw Tryz.func69 rfl rfl (by decide +kernel) (by simp [Tryz.f69]) ?_); simp -dsimp -failIfUnchanged (maxSteps := 2000000) (disch := omega) only [VA, if_true_, if_false_, reduceIte, Nat.reduceEqDiff, Nat.reduceAdd, Nat.reduceMul, Nat.reduceSub, Int.reduceToNat, Int.reduceAdd, Int.reduceNeg, Int.reduceSub, Int.reduceMul, Int.reduceBEq, Int.reduceBNe, Int.reduceLT, Int.reduceLE, Int.reduceEq, beq_self_eq_true, Int.reducePow, Nat.reducePow, Int.reduceDiv, Nat.reduceLeDiff, reduceCtorEq, Tryz.f69, Tryz.results69, bC092, c1]
    refine plain_W hs ?_
    rw [if_neg (by have := of_decide_eq_false c1; omega)] at h
    cases c2 : plain s <;> rw [c2] at h <;> (simp -dsimp -failIfUnchanged (maxSteps := 2000000) (disch := omega) only [VA, if_true_, if_false_, reduceIte, Nat.reduceEqDiff, Nat.reduceAdd, Nat.reduceMul, Nat.reduceSub, Int.reduceToNat, Int.reduceAdd, Int.reduceNeg, Int.reduceSub, Int.reduceMul, Int.reduceBEq, Int.reduceBNe, Int.reduceLT, Int.reduceLE, Int.reduceEq, beq_self_eq_true, Int.reducePow, Nat.reducePow, Int.reduceDiv, Nat.reduceLeDiff, reduceCtorEq, Tryz.f69, Tryz.results69, bC092]; exact h)
  · (refine invW_of_pw Tryz.func69 rfl rfl (by decide +kernel) (by simp [Tryz.f69]) ?_); simp -dsimp -failIfUnchanged (maxSteps := 2000000) (disch := omega) only [VA, if_true_, if_false_, reduceIte, Nat.reduceEqDiff, Nat.reduceAdd, Nat.reduceMul, Nat.reduceSub, Int.reduceToNat, Int.reduceAdd, Int.reduceNeg, Int.reduceSub, Int.reduceMul, Int.reduceBEq, Int.reduceBNe, Int.reduceLT, Int.reduceLE, Int.reduceEq, beq_self_eq_true, Int.reducePow, Nat.reducePow, Int.reduceDiv, Nat.reduceLeDiff, reduceCtorEq, Tryz.f69, Tryz.results69, bC092, c1]
    rw [if_pos (by have := of_decide_eq_true c1; omega)] at h
    exact h

/-- What Check of the parts says. -/
def errA (n p r : List UInt8) : Int :=
  if 16 < n.length ∨ 16 < p.length ∨ 12 < r.length then 5 else if n = [] ∨ p = [] then 4 else if nameB n && hostB p && plain r then 0 else 11
theorem check_W {n p r : List UInt8} (hB : Base H) (hs : n.length + p.length + r.length < 4294967281) (h : K (.int .i64 (errA n p r)) H) : InvW Tryz.prog 195 #[addrV n p r] H K := by
  refine InvW.weak ?_
  unfold errA at h
  have hn : n.length < 4294967281 := by omega
  have hp : p.length < 4294967281 := by omega
  have hr : r.length < 4294967281 := by omega
  (refine invW_of_pw Tryz.func195 rfl rfl (by decide +kernel) (by simp [Tryz.f195]) ?_); simp -dsimp -failIfUnchanged (maxSteps := 2000000) (disch := omega) only [VA, if_true_, if_false_, reduceIte, Nat.reduceEqDiff, Nat.reduceAdd, Nat.reduceMul, Nat.reduceSub, Int.reduceToNat, Int.reduceAdd, Int.reduceNeg, Int.reduceSub, Int.reduceMul, Int.reduceBEq, Int.reduceBNe, Int.reduceLT, Int.reduceLE, Int.reduceEq, beq_self_eq_true, Int.reducePow, Nat.reducePow, Int.reduceDiv, Nat.reduceLeDiff, reduceCtorEq, Tryz.f195, Tryz.results195, bC093, addrV]
  intro a ha
  simp -dsimp -failIfUnchanged (maxSteps := 2000000) (disch := omega) only [VA, if_true_, if_false_, reduceIte, Nat.reduceEqDiff, Nat.reduceAdd, Nat.reduceMul, Nat.reduceSub, Int.reduceToNat, Int.reduceAdd, Int.reduceNeg, Int.reduceSub, Int.reduceMul, Int.reduceBEq, Int.reduceBNe, Int.reduceLT, Int.reduceLE, Int.reduceEq, beq_self_eq_true, Int.reducePow, Nat.reducePow, Int.reduceDiv, Nat.reduceLeDiff, reduceCtorEq, Tryz.f195, Tryz.results195, bC093]
  intro c hc
  have hne : c ≠ a := by rintro rfl; simp [Mem.upd] at hc
  simp -dsimp -failIfUnchanged (maxSteps := 2000000) (disch := omega) only [VA, if_true_, if_false_, reduceIte, Nat.reduceEqDiff, Nat.reduceAdd, Nat.reduceMul, Nat.reduceSub, Int.reduceToNat, Int.reduceAdd, Int.reduceNeg, Int.reduceSub, Int.reduceMul, Int.reduceBEq, Int.reduceBNe, Int.reduceLT, Int.reduceLE, Int.reduceEq, beq_self_eq_true, Int.reducePow, Nat.reducePow, Int.reduceDiv, Nat.reduceLeDiff, reduceCtorEq, Tryz.f195, Tryz.results195, bC093]
  have hc' : ∀ x, (H.upd a x) c = none := fun x => by simpa [Mem.upd, hne] using hc
  have hH : ∀ x y, H.le ((H.upd a x).upd c y) := fun x y => Mem.le_upd' (Mem.le_upd ha _) (hc' _) _
  refine loop_enter (loop_ind ?_ (fun (i : Nat) e1 H1 => e1.ds = [] ∧ e1 1 = .pointer (some ⟨a, 0, none⟩) ∧ e1 3 = .pointer (some ⟨c, 0, none⟩) ∧ e1 6 = .int .i64 i ∧ i ≤ 3 ∧ (0 < i → n.length ≤ 16) ∧ (1 < i → p.length ≤ 16) ∧ (2 < i → r.length ≤ 12) ∧
      H1 = (H.upd a ⟨true, 3, [.string (bs n), .string (bs p), .string (bs r)]⟩).upd c ⟨true, 3, [.int .i64 16, .int .i64 16, .int .i64 12]⟩) (fun i => 3 - i) ?_ 0 _ _ ?_)
  · decide +kernel
  rotate_left
  · simp -dsimp -failIfUnchanged (maxSteps := 2000000) (disch := omega) only [VA, if_true_, if_false_, reduceIte, Nat.reduceEqDiff, Nat.reduceAdd, Nat.reduceMul, Nat.reduceSub, Int.reduceToNat, Int.reduceAdd, Int.reduceNeg, Int.reduceSub, Int.reduceMul, Int.reduceBEq, Int.reduceBNe, Int.reduceLT, Int.reduceLE, Int.reduceEq, beq_self_eq_true, Int.reducePow, Nat.reducePow, Int.reduceDiv, Nat.reduceLeDiff, reduceCtorEq, Tryz.f195, Tryz.results195, bC093]
    refine ⟨trivial, trivial, trivial, trivial, trivial, fun hh => ?_, fun hh => ?_, fun hh => ?_, trivial⟩ <;> omega
  rintro i e1 H1 ⟨e0, e1', e3, e6, hi, m0, m1, m2, rfl⟩ ih
  match i, hi with
  | 0, _ =>
    have e6' : e1 6 = .int .i64 0 := e6
    simp -dsimp -failIfUnchanged (maxSteps := 2000000) (disch := omega) only [VA, if_true_, if_false_, reduceIte, Nat.reduceEqDiff, Nat.reduceAdd, Nat.reduceMul, Nat.reduceSub, Int.reduceToNat, Int.reduceAdd, Int.reduceNeg, Int.reduceSub, Int.reduceMul, Int.reduceBEq, Int.reduceBNe, Int.reduceLT, Int.reduceLE, Int.reduceEq, beq_self_eq_true, Int.reducePow, Nat.reducePow, Int.reduceDiv, Nat.reduceLeDiff, reduceCtorEq, Tryz.f195, Tryz.results195, bC093, e0, e1', e3, e6']
    refine draw_quiet ?_ ?_ ?_ ?_
    · decide +kernel
    · decide +kernel
    · decide +kernel
    simp -dsimp -failIfUnchanged (maxSteps := 2000000) (disch := omega) only [VA, if_true_, if_false_, reduceIte, Nat.reduceEqDiff, Nat.reduceAdd, Nat.reduceMul, Nat.reduceSub, Int.reduceToNat, Int.reduceAdd, Int.reduceNeg, Int.reduceSub, Int.reduceMul, Int.reduceBEq, Int.reduceBNe, Int.reduceLT, Int.reduceLE, Int.reduceEq, beq_self_eq_true, Int.reducePow, Nat.reducePow, Int.reduceDiv, Nat.reduceLeDiff, reduceCtorEq, Tryz.f195, Tryz.results195, bC093, pwQ, pwQ.qOpW, qV, e0, e1', e3, e6']
    refine ⟨by decide +kernel, addrV n p r, parts_W ⟨rfl, rfl⟩, ?_⟩
    simp -dsimp -failIfUnchanged (maxSteps := 2000000) (disch := omega) only [VA, if_true_, if_false_, reduceIte, Nat.reduceEqDiff, Nat.reduceAdd, Nat.reduceMul, Nat.reduceSub, Int.reduceToNat, Int.reduceAdd, Int.reduceNeg, Int.reduceSub, Int.reduceMul, Int.reduceBEq, Int.reduceBNe, Int.reduceLT, Int.reduceLE, Int.reduceEq, beq_self_eq_true, Int.reducePow, Nat.reducePow, Int.reduceDiv, Nat.reduceLeDiff, reduceCtorEq, Tryz.f195, Tryz.results195, bC093, pwQ, pwQ.qOpW, qV, addrV, e0, e1', e3, e6']
    cases d0 : decide ((16 : Int) < n.length)
    · simp -dsimp -failIfUnchanged (maxSteps := 2000000) (disch := omega) only [VA, if_true_, if_false_, reduceIte, Nat.reduceEqDiff, Nat.reduceAdd, Nat.reduceMul, Nat.reduceSub, Int.reduceToNat, Int.reduceAdd, Int.reduceNeg, Int.reduceSub, Int.reduceMul, Int.reduceBEq, Int.reduceBNe, Int.reduceLT, Int.reduceLE, Int.reduceEq, beq_self_eq_true, Int.reducePow, Nat.reducePow, Int.reduceDiv, Nat.reduceLeDiff, reduceCtorEq, Tryz.f195, Tryz.results195, bC093, e0, e1', e3, e6']
      refine ih (0 + 1) _ _ ?_ (by omega)
      simp -dsimp -failIfUnchanged (maxSteps := 2000000) (disch := omega) only [VA, if_true_, if_false_, reduceIte, Nat.reduceEqDiff, Nat.reduceAdd, Nat.reduceMul, Nat.reduceSub, Int.reduceToNat, Int.reduceAdd, Int.reduceNeg, Int.reduceSub, Int.reduceMul, Int.reduceBEq, Int.reduceBNe, Int.reduceLT, Int.reduceLE, Int.reduceEq, beq_self_eq_true, Int.reducePow, Nat.reducePow, Int.reduceDiv, Nat.reduceLeDiff, reduceCtorEq, Tryz.f195, Tryz.results195, bC093, e0, e1', e3, e6']
      have := of_decide_eq_false d0
      refine ⟨trivial, trivial, trivial, ?_, ?_, fun hh => ?_, fun hh => ?_, fun hh => ?_, trivial⟩ <;> first | trivial | omega
    · simp -dsimp -failIfUnchanged (maxSteps := 2000000) (disch := omega) only [VA, if_true_, if_false_, reduceIte, Nat.reduceEqDiff, Nat.reduceAdd, Nat.reduceMul, Nat.reduceSub, Int.reduceToNat, Int.reduceAdd, Int.reduceNeg, Int.reduceSub, Int.reduceMul, Int.reduceBEq, Int.reduceBNe, Int.reduceLT, Int.reduceLE, Int.reduceEq, beq_self_eq_true, Int.reducePow, Nat.reducePow, Int.reduceDiv, Nat.reduceLeDiff, reduceCtorEq, Tryz.f195, Tryz.results195, bC093, e0, e1', e3, e6']
      rw [if_pos (by simp at d0; omega)] at h
      exact ⟨H, hH _ _, h⟩
  | 1, _ =>
    have e6' : e1 6 = .int .i64 1 := e6
    simp -dsimp -failIfUnchanged (maxSteps := 2000000) (disch := omega) only [VA, if_true_, if_false_, reduceIte, Nat.reduceEqDiff, Nat.reduceAdd, Nat.reduceMul, Nat.reduceSub, Int.reduceToNat, Int.reduceAdd, Int.reduceNeg, Int.reduceSub, Int.reduceMul, Int.reduceBEq, Int.reduceBNe, Int.reduceLT, Int.reduceLE, Int.reduceEq, beq_self_eq_true, Int.reducePow, Nat.reducePow, Int.reduceDiv, Nat.reduceLeDiff, reduceCtorEq, Tryz.f195, Tryz.results195, bC093, e0, e1', e3, e6']
    refine draw_quiet ?_ ?_ ?_ ?_
    · decide +kernel
    · decide +kernel
    · decide +kernel
    simp -dsimp -failIfUnchanged (maxSteps := 2000000) (disch := omega) only [VA, if_true_, if_false_, reduceIte, Nat.reduceEqDiff, Nat.reduceAdd, Nat.reduceMul, Nat.reduceSub, Int.reduceToNat, Int.reduceAdd, Int.reduceNeg, Int.reduceSub, Int.reduceMul, Int.reduceBEq, Int.reduceBNe, Int.reduceLT, Int.reduceLE, Int.reduceEq, beq_self_eq_true, Int.reducePow, Nat.reducePow, Int.reduceDiv, Nat.reduceLeDiff, reduceCtorEq, Tryz.f195, Tryz.results195, bC093, pwQ, pwQ.qOpW, qV, e0, e1', e3, e6']
    refine ⟨by decide +kernel, addrV n p r, parts_W ⟨rfl, rfl⟩, ?_⟩
    simp -dsimp -failIfUnchanged (maxSteps := 2000000) (disch := omega) only [VA, if_true_, if_false_, reduceIte, Nat.reduceEqDiff, Nat.reduceAdd, Nat.reduceMul, Nat.reduceSub, Int.reduceToNat, Int.reduceAdd, Int.reduceNeg, Int.reduceSub, Int.reduceMul, Int.reduceBEq, Int.reduceBNe, Int.reduceLT, Int.reduceLE, Int.reduceEq, beq_self_eq_true, Int.reducePow, Nat.reducePow, Int.reduceDiv, Nat.reduceLeDiff, reduceCtorEq, Tryz.f195, Tryz.results195, bC093, pwQ, pwQ.qOpW, qV, addrV, e0, e1', e3, e6']
    cases d0 : decide ((16 : Int) < p.length)
    · simp -dsimp -failIfUnchanged (maxSteps := 2000000) (disch := omega) only [VA, if_true_, if_false_, reduceIte, Nat.reduceEqDiff, Nat.reduceAdd, Nat.reduceMul, Nat.reduceSub, Int.reduceToNat, Int.reduceAdd, Int.reduceNeg, Int.reduceSub, Int.reduceMul, Int.reduceBEq, Int.reduceBNe, Int.reduceLT, Int.reduceLE, Int.reduceEq, beq_self_eq_true, Int.reducePow, Nat.reducePow, Int.reduceDiv, Nat.reduceLeDiff, reduceCtorEq, Tryz.f195, Tryz.results195, bC093, e0, e1', e3, e6']
      refine ih (1 + 1) _ _ ?_ (by omega)
      simp -dsimp -failIfUnchanged (maxSteps := 2000000) (disch := omega) only [VA, if_true_, if_false_, reduceIte, Nat.reduceEqDiff, Nat.reduceAdd, Nat.reduceMul, Nat.reduceSub, Int.reduceToNat, Int.reduceAdd, Int.reduceNeg, Int.reduceSub, Int.reduceMul, Int.reduceBEq, Int.reduceBNe, Int.reduceLT, Int.reduceLE, Int.reduceEq, beq_self_eq_true, Int.reducePow, Nat.reducePow, Int.reduceDiv, Nat.reduceLeDiff, reduceCtorEq, Tryz.f195, Tryz.results195, bC093, e0, e1', e3, e6']
      have := of_decide_eq_false d0
      refine ⟨trivial, trivial, trivial, ?_, ?_, fun hh => ?_, fun hh => ?_, fun hh => ?_, trivial⟩ <;> first | trivial | omega
    · simp -dsimp -failIfUnchanged (maxSteps := 2000000) (disch := omega) only [VA, if_true_, if_false_, reduceIte, Nat.reduceEqDiff, Nat.reduceAdd, Nat.reduceMul, Nat.reduceSub, Int.reduceToNat, Int.reduceAdd, Int.reduceNeg, Int.reduceSub, Int.reduceMul, Int.reduceBEq, Int.reduceBNe, Int.reduceLT, Int.reduceLE, Int.reduceEq, beq_self_eq_true, Int.reducePow, Nat.reducePow, Int.reduceDiv, Nat.reduceLeDiff, reduceCtorEq, Tryz.f195, Tryz.results195, bC093, e0, e1', e3, e6']
      rw [if_pos (by simp at d0; omega)] at h
      exact ⟨H, hH _ _, h⟩
  | 2, _ =>
    have e6' : e1 6 = .int .i64 2 := e6
    simp -dsimp -failIfUnchanged (maxSteps := 2000000) (disch := omega) only [VA, if_true_, if_false_, reduceIte, Nat.reduceEqDiff, Nat.reduceAdd, Nat.reduceMul, Nat.reduceSub, Int.reduceToNat, Int.reduceAdd, Int.reduceNeg, Int.reduceSub, Int.reduceMul, Int.reduceBEq, Int.reduceBNe, Int.reduceLT, Int.reduceLE, Int.reduceEq, beq_self_eq_true, Int.reducePow, Nat.reducePow, Int.reduceDiv, Nat.reduceLeDiff, reduceCtorEq, Tryz.f195, Tryz.results195, bC093, e0, e1', e3, e6']
    refine draw_quiet ?_ ?_ ?_ ?_
    · decide +kernel
    · decide +kernel
    · decide +kernel
    simp -dsimp -failIfUnchanged (maxSteps := 2000000) (disch := omega) only [VA, if_true_, if_false_, reduceIte, Nat.reduceEqDiff, Nat.reduceAdd, Nat.reduceMul, Nat.reduceSub, Int.reduceToNat, Int.reduceAdd, Int.reduceNeg, Int.reduceSub, Int.reduceMul, Int.reduceBEq, Int.reduceBNe, Int.reduceLT, Int.reduceLE, Int.reduceEq, beq_self_eq_true, Int.reducePow, Nat.reducePow, Int.reduceDiv, Nat.reduceLeDiff, reduceCtorEq, Tryz.f195, Tryz.results195, bC093, pwQ, pwQ.qOpW, qV, e0, e1', e3, e6']
    refine ⟨by decide +kernel, addrV n p r, parts_W ⟨rfl, rfl⟩, ?_⟩
    simp -dsimp -failIfUnchanged (maxSteps := 2000000) (disch := omega) only [VA, if_true_, if_false_, reduceIte, Nat.reduceEqDiff, Nat.reduceAdd, Nat.reduceMul, Nat.reduceSub, Int.reduceToNat, Int.reduceAdd, Int.reduceNeg, Int.reduceSub, Int.reduceMul, Int.reduceBEq, Int.reduceBNe, Int.reduceLT, Int.reduceLE, Int.reduceEq, beq_self_eq_true, Int.reducePow, Nat.reducePow, Int.reduceDiv, Nat.reduceLeDiff, reduceCtorEq, Tryz.f195, Tryz.results195, bC093, pwQ, pwQ.qOpW, qV, addrV, e0, e1', e3, e6']
    cases d0 : decide ((12 : Int) < r.length)
    · simp -dsimp -failIfUnchanged (maxSteps := 2000000) (disch := omega) only [VA, if_true_, if_false_, reduceIte, Nat.reduceEqDiff, Nat.reduceAdd, Nat.reduceMul, Nat.reduceSub, Int.reduceToNat, Int.reduceAdd, Int.reduceNeg, Int.reduceSub, Int.reduceMul, Int.reduceBEq, Int.reduceBNe, Int.reduceLT, Int.reduceLE, Int.reduceEq, beq_self_eq_true, Int.reducePow, Nat.reducePow, Int.reduceDiv, Nat.reduceLeDiff, reduceCtorEq, Tryz.f195, Tryz.results195, bC093, e0, e1', e3, e6']
      refine ih (2 + 1) _ _ ?_ (by omega)
      simp -dsimp -failIfUnchanged (maxSteps := 2000000) (disch := omega) only [VA, if_true_, if_false_, reduceIte, Nat.reduceEqDiff, Nat.reduceAdd, Nat.reduceMul, Nat.reduceSub, Int.reduceToNat, Int.reduceAdd, Int.reduceNeg, Int.reduceSub, Int.reduceMul, Int.reduceBEq, Int.reduceBNe, Int.reduceLT, Int.reduceLE, Int.reduceEq, beq_self_eq_true, Int.reducePow, Nat.reducePow, Int.reduceDiv, Nat.reduceLeDiff, reduceCtorEq, Tryz.f195, Tryz.results195, bC093, e0, e1', e3, e6']
      have := of_decide_eq_false d0
      refine ⟨trivial, trivial, trivial, ?_, ?_, fun hh => ?_, fun hh => ?_, fun hh => ?_, trivial⟩ <;> first | trivial | omega
    · simp -dsimp -failIfUnchanged (maxSteps := 2000000) (disch := omega) only [VA, if_true_, if_false_, reduceIte, Nat.reduceEqDiff, Nat.reduceAdd, Nat.reduceMul, Nat.reduceSub, Int.reduceToNat, Int.reduceAdd, Int.reduceNeg, Int.reduceSub, Int.reduceMul, Int.reduceBEq, Int.reduceBNe, Int.reduceLT, Int.reduceLE, Int.reduceEq, beq_self_eq_true, Int.reducePow, Nat.reducePow, Int.reduceDiv, Nat.reduceLeDiff, reduceCtorEq, Tryz.f195, Tryz.results195, bC093, e0, e1', e3, e6']
      rw [if_pos (by simp at d0; omega)] at h
      exact ⟨H, hH _ _, h⟩
  | 3, _ =>
  have e6' : e1 6 = .int .i64 3 := e6
  simp -dsimp -failIfUnchanged (maxSteps := 2000000) (disch := omega) only [VA, if_true_, if_false_, reduceIte, Nat.reduceEqDiff, Nat.reduceAdd, Nat.reduceMul, Nat.reduceSub, Int.reduceToNat, Int.reduceAdd, Int.reduceNeg, Int.reduceSub, Int.reduceMul, Int.reduceBEq, Int.reduceBNe, Int.reduceLT, Int.reduceLE, Int.reduceEq, beq_self_eq_true, Int.reducePow, Nat.reducePow, Int.reduceDiv, Nat.reduceLeDiff, reduceCtorEq, Tryz.f195, Tryz.results195, bC093, e0, e1', e3, e6']
  rw [if_neg (by omega)] at h
  cases f1 : decide (n = [])
  rotate_left
  · simp -dsimp -failIfUnchanged (maxSteps := 2000000) (disch := omega) only [VA, if_true_, if_false_, reduceIte, Nat.reduceEqDiff, Nat.reduceAdd, Nat.reduceMul, Nat.reduceSub, Int.reduceToNat, Int.reduceAdd, Int.reduceNeg, Int.reduceSub, Int.reduceMul, Int.reduceBEq, Int.reduceBNe, Int.reduceLT, Int.reduceLE, Int.reduceEq, beq_self_eq_true, Int.reducePow, Nat.reducePow, Int.reduceDiv, Nat.reduceLeDiff, reduceCtorEq, Tryz.f195, Tryz.results195, bC093, f1, e0, e1']
    rw [if_pos (.inl (of_decide_eq_true f1))] at h
    exact ⟨H, hH _ _, h⟩
  simp -dsimp -failIfUnchanged (maxSteps := 2000000) (disch := omega) only [VA, if_true_, if_false_, reduceIte, Nat.reduceEqDiff, Nat.reduceAdd, Nat.reduceMul, Nat.reduceSub, Int.reduceToNat, Int.reduceAdd, Int.reduceNeg, Int.reduceSub, Int.reduceMul, Int.reduceBEq, Int.reduceBNe, Int.reduceLT, Int.reduceLE, Int.reduceEq, beq_self_eq_true, Int.reducePow, Nat.reducePow, Int.reduceDiv, Nat.reduceLeDiff, reduceCtorEq, Tryz.f195, Tryz.results195, bC093, f1, e0, e1']
  cases f2 : decide (p = [])
  rotate_left
  · simp -dsimp -failIfUnchanged (maxSteps := 2000000) (disch := omega) only [VA, if_true_, if_false_, reduceIte, Nat.reduceEqDiff, Nat.reduceAdd, Nat.reduceMul, Nat.reduceSub, Int.reduceToNat, Int.reduceAdd, Int.reduceNeg, Int.reduceSub, Int.reduceMul, Int.reduceBEq, Int.reduceBNe, Int.reduceLT, Int.reduceLE, Int.reduceEq, beq_self_eq_true, Int.reducePow, Nat.reducePow, Int.reduceDiv, Nat.reduceLeDiff, reduceCtorEq, Tryz.f195, Tryz.results195, bC093, f2, e0, e1']
    rw [if_pos (.inr (of_decide_eq_true f2))] at h
    exact ⟨H, hH _ _, h⟩
  simp -dsimp -failIfUnchanged (maxSteps := 2000000) (disch := omega) only [VA, if_true_, if_false_, reduceIte, Nat.reduceEqDiff, Nat.reduceAdd, Nat.reduceMul, Nat.reduceSub, Int.reduceToNat, Int.reduceAdd, Int.reduceNeg, Int.reduceSub, Int.reduceMul, Int.reduceBEq, Int.reduceBNe, Int.reduceLT, Int.reduceLE, Int.reduceEq, beq_self_eq_true, Int.reducePow, Nat.reducePow, Int.reduceDiv, Nat.reduceLeDiff, reduceCtorEq, Tryz.f195, Tryz.results195, bC093, f2, e0, e1']
  rw [if_neg (by have := of_decide_eq_false f1; have := of_decide_eq_false f2; rintro (x | x) <;> contradiction)] at h
  refine name_W hn ?_
  cases g1 : nameB n
  · simp -dsimp -failIfUnchanged (maxSteps := 2000000) (disch := omega) only [VA, if_true_, if_false_, reduceIte, Nat.reduceEqDiff, Nat.reduceAdd, Nat.reduceMul, Nat.reduceSub, Int.reduceToNat, Int.reduceAdd, Int.reduceNeg, Int.reduceSub, Int.reduceMul, Int.reduceBEq, Int.reduceBNe, Int.reduceLT, Int.reduceLE, Int.reduceEq, beq_self_eq_true, Int.reducePow, Nat.reducePow, Int.reduceDiv, Nat.reduceLeDiff, reduceCtorEq, Tryz.f195, Tryz.results195, bC093, e0, e1']
    rw [g1] at h
    exact ⟨H, hH _ _, h⟩
  simp -dsimp -failIfUnchanged (maxSteps := 2000000) (disch := omega) only [VA, if_true_, if_false_, reduceIte, Nat.reduceEqDiff, Nat.reduceAdd, Nat.reduceMul, Nat.reduceSub, Int.reduceToNat, Int.reduceAdd, Int.reduceNeg, Int.reduceSub, Int.reduceMul, Int.reduceBEq, Int.reduceBNe, Int.reduceLT, Int.reduceLE, Int.reduceEq, beq_self_eq_true, Int.reducePow, Nat.reducePow, Int.reduceDiv, Nat.reduceLeDiff, reduceCtorEq, Tryz.f195, Tryz.results195, bC093, e0, e1']
  refine host_W (hB.le (hH _ _)) hp ?_
  cases g2 : hostB p
  · simp -dsimp -failIfUnchanged (maxSteps := 2000000) (disch := omega) only [VA, if_true_, if_false_, reduceIte, Nat.reduceEqDiff, Nat.reduceAdd, Nat.reduceMul, Nat.reduceSub, Int.reduceToNat, Int.reduceAdd, Int.reduceNeg, Int.reduceSub, Int.reduceMul, Int.reduceBEq, Int.reduceBNe, Int.reduceLT, Int.reduceLE, Int.reduceEq, beq_self_eq_true, Int.reducePow, Nat.reducePow, Int.reduceDiv, Nat.reduceLeDiff, reduceCtorEq, Tryz.f195, Tryz.results195, bC093, e0, e1']
    rw [g1, g2] at h
    exact ⟨H, hH _ _, h⟩
  simp -dsimp -failIfUnchanged (maxSteps := 2000000) (disch := omega) only [VA, if_true_, if_false_, reduceIte, Nat.reduceEqDiff, Nat.reduceAdd, Nat.reduceMul, Nat.reduceSub, Int.reduceToNat, Int.reduceAdd, Int.reduceNeg, Int.reduceSub, Int.reduceMul, Int.reduceBEq, Int.reduceBNe, Int.reduceLT, Int.reduceLE, Int.reduceEq, beq_self_eq_true, Int.reducePow, Nat.reducePow, Int.reduceDiv, Nat.reduceLeDiff, reduceCtorEq, Tryz.f195, Tryz.results195, bC093, e0, e1']
  refine plain_W hr ?_
  rw [g1, g2] at h
  cases g3 : plain r <;> rw [g3] at h <;> (simp -dsimp -failIfUnchanged (maxSteps := 2000000) (disch := omega) only [VA, if_true_, if_false_, reduceIte, Nat.reduceEqDiff, Nat.reduceAdd, Nat.reduceMul, Nat.reduceSub, Int.reduceToNat, Int.reduceAdd, Int.reduceNeg, Int.reduceSub, Int.reduceMul, Int.reduceBEq, Int.reduceBNe, Int.reduceLT, Int.reduceLE, Int.reduceEq, beq_self_eq_true, Int.reducePow, Nat.reducePow, Int.reduceDiv, Nat.reduceLeDiff, reduceCtorEq, Tryz.f195, Tryz.results195, bC093, e0, e1']; exact ⟨H, hH _ _, h⟩)
end Go.Proofs.YtgkolnknobgcmaaGreat
end
section
namespace Go.Proofs.YtgkolnknobgcmaaGreat
open Go Go.Proofs.YtgkolnknobgcmaaGreatV Go.Shelf
set_option maxRecDepth 20000
set_option linter.unusedSimpArgs false
set_option linter.unusedVariables false
set_option maxHeartbeats 4000000
theorem bC100 : type_of% @Tryz.underlying9 ∧ type_of% @ty9 ∧ type_of% @zero9 ∧ type_of% @Tryz.underlying36 ∧ type_of% @ty36 ∧ type_of% @zero36 ∧ type_of% @Tryz.underlying277 ∧ type_of% @elt277 ∧ type_of% @fld277_0 ∧ type_of% @fld277_1 ∧ type_of% @fld277_2 ∧ type_of% @flds277 ∧ type_of% @ty277 ∧ type_of% @zero277 ∧ type_of% @Tryz.ntmps171 := ⟨@Tryz.underlying9, @ty9, @zero9, @Tryz.underlying36, @ty36, @zero36, @Tryz.underlying277, @elt277, @fld277_0, @fld277_1, @fld277_2, @flds277, @ty277, @zero277, @Tryz.ntmps171⟩
theorem bC101 : type_of% @Tryz.underlying9 ∧ type_of% @ty9 ∧ type_of% @zero9 ∧ type_of% @Tryz.underlying36 ∧ type_of% @ty36 ∧ type_of% @zero36 ∧ type_of% @Tryz.underlying277 ∧ type_of% @elt277 ∧ type_of% @fld277_0 ∧ type_of% @fld277_1 ∧ type_of% @fld277_2 ∧ type_of% @flds277 ∧ type_of% @ty277 ∧ type_of% @zero277 ∧ type_of% @Tryz.ntmps116 := ⟨@Tryz.underlying9, @ty9, @zero9, @Tryz.underlying36, @ty36, @zero36, @Tryz.underlying277, @elt277, @fld277_0, @fld277_1, @fld277_2, @flds277, @ty277, @zero277, @Tryz.ntmps116⟩
theorem bC102 : type_of% @Tryz.underlying9 ∧ type_of% @ty9 ∧ type_of% @zero9 ∧ type_of% @Tryz.underlying36 ∧ type_of% @ty36 ∧ type_of% @zero36 ∧ type_of% @Tryz.ntmps68 := ⟨@Tryz.underlying9, @ty9, @zero9, @Tryz.underlying36, @ty36, @zero36, @Tryz.ntmps68⟩
variable {H : Mem} {K : Value → Mem → Prop}

theorem cut_len (s sep : List UInt8) : (Lib.cut s sep).1.length + (Lib.cut s sep).2.1.length ≤ s.length := by
  unfold Lib.cut
  split
  · simp only [List.length_take, List.length_drop]; omega
  · simp
structure Parsed where
  n : List UInt8
  p : List UInt8
  r : List UInt8
  e : Int
def parse (s : List UInt8) : Parsed :=
  if (Lib.cut ((Lib.cut s [47]).1.map lowB) [64]).2.2 = false ∨ ((Lib.cut s [47]).2.2 = true ∧ (Lib.cut s [47]).2.1 = []) then ⟨[], [], [], 4⟩
  else if errA (Lib.cut ((Lib.cut s [47]).1.map lowB) [64]).1 (Lib.cut ((Lib.cut s [47]).1.map lowB) [64]).2.1 (Lib.cut s [47]).2.1 = 0 then
    ⟨(Lib.cut ((Lib.cut s [47]).1.map lowB) [64]).1, (Lib.cut ((Lib.cut s [47]).1.map lowB) [64]).2.1, (Lib.cut s [47]).2.1, 0⟩
  else ⟨[], [], [], errA (Lib.cut ((Lib.cut s [47]).1.map lowB) [64]).1 (Lib.cut ((Lib.cut s [47]).1.map lowB) [64]).2.1 (Lib.cut s [47]).2.1⟩
theorem parse_len (s : List UInt8) : (parse s).n.length + (parse s).p.length + (parse s).r.length ≤ s.length := by
  have l1 := cut_len s [47]
  have l2 := cut_len ((Lib.cut s [47]).1.map lowB) [64]
  rw [List.length_map] at l2
  unfold parse
  split
  · simp
  · split
    · simp only; omega
    · simp
theorem parse_W {s : List UInt8} (hB : Base H) (hs : s.length < 4294967281) (h : K (.tuple #[addrV (parse s).n (parse s).p (parse s).r, .int .i64 (parse s).e]) H) : InvW Tryz.prog 171 #[.string (bs s)] H K := by
  refine InvW.weak ?_
  have l1 := cut_len s [47]
  have l2 := cut_len ((Lib.cut s [47]).1.map lowB) [64]
  rw [List.length_map] at l2
  unfold parse at h
  generalize hc1 : Lib.cut s [47] = c1 at l1 l2 h
  obtain ⟨front, res, slash⟩ := c1
  simp only at l1 l2 h
  generalize hc2 : Lib.cut (front.map lowB) [64] = c2 at l2 h
  obtain ⟨own, place, atq⟩ := c2
  simp only at l1 l2 h
  (refine invW_of_pw Tryz.func171 rfl rfl (by decide +kernel) (by simp [Tryz.f171]) ?_); simp -dsimp -failIfUnchanged (maxSteps := 2000000) (disch := omega) only [VA, if_true_, if_false_, reduceIte, Nat.reduceEqDiff, Nat.reduceAdd, Nat.reduceMul, Nat.reduceSub, Int.reduceToNat, Int.reduceAdd, Int.reduceNeg, Int.reduceSub, Int.reduceMul, Int.reduceBEq, Int.reduceBNe, Int.reduceLT, Int.reduceLE, Int.reduceEq, beq_self_eq_true, Int.reducePow, Nat.reducePow, Int.reduceDiv, Nat.reduceLeDiff, reduceCtorEq, Tryz.f171, Tryz.results171, bC100]
  intro a ha
  simp -dsimp -failIfUnchanged (maxSteps := 2000000) (disch := omega) only [VA, if_true_, if_false_, reduceIte, Nat.reduceEqDiff, Nat.reduceAdd, Nat.reduceMul, Nat.reduceSub, Int.reduceToNat, Int.reduceAdd, Int.reduceNeg, Int.reduceSub, Int.reduceMul, Int.reduceBEq, Int.reduceBNe, Int.reduceLT, Int.reduceLE, Int.reduceEq, beq_self_eq_true, Int.reducePow, Nat.reducePow, Int.reduceDiv, Nat.reduceLeDiff, reduceCtorEq, Tryz.f171, Tryz.results171, bC100]
  refine cut_W (hB.le (Mem.le_upd ha _)) hs ?_
  rw [hc1]
  simp -dsimp -failIfUnchanged (maxSteps := 2000000) (disch := omega) only [VA, if_true_, if_false_, reduceIte, Nat.reduceEqDiff, Nat.reduceAdd, Nat.reduceMul, Nat.reduceSub, Int.reduceToNat, Int.reduceAdd, Int.reduceNeg, Int.reduceSub, Int.reduceMul, Int.reduceBEq, Int.reduceBNe, Int.reduceLT, Int.reduceLE, Int.reduceEq, beq_self_eq_true, Int.reducePow, Nat.reducePow, Int.reduceDiv, Nat.reduceLeDiff, reduceCtorEq, Tryz.f171, Tryz.results171, bC100]
  refine low_W (by omega) ?_
  simp -dsimp -failIfUnchanged (maxSteps := 2000000) (disch := omega) only [VA, if_true_, if_false_, reduceIte, Nat.reduceEqDiff, Nat.reduceAdd, Nat.reduceMul, Nat.reduceSub, Int.reduceToNat, Int.reduceAdd, Int.reduceNeg, Int.reduceSub, Int.reduceMul, Int.reduceBEq, Int.reduceBNe, Int.reduceLT, Int.reduceLE, Int.reduceEq, beq_self_eq_true, Int.reducePow, Nat.reducePow, Int.reduceDiv, Nat.reduceLeDiff, reduceCtorEq, Tryz.f171, Tryz.results171, bC100]
  refine cut_W (hB.le (Mem.le_upd ha _)) (by rw [List.length_map]; omega) ?_
  rw [hc2]
  have hH : ∀ x, H.le (H.upd a x) := fun x => Mem.le_upd ha _
  cases atq
  · simp -dsimp -failIfUnchanged (maxSteps := 2000000) (disch := omega) only [VA, if_true_, if_false_, reduceIte, Nat.reduceEqDiff, Nat.reduceAdd, Nat.reduceMul, Nat.reduceSub, Int.reduceToNat, Int.reduceAdd, Int.reduceNeg, Int.reduceSub, Int.reduceMul, Int.reduceBEq, Int.reduceBNe, Int.reduceLT, Int.reduceLE, Int.reduceEq, beq_self_eq_true, Int.reducePow, Nat.reducePow, Int.reduceDiv, Nat.reduceLeDiff, reduceCtorEq, Tryz.f171, Tryz.results171, bC100]
    rw [if_pos (.inl rfl)] at h
    cases slash
    · simp -dsimp -failIfUnchanged (maxSteps := 2000000) (disch := omega) only [VA, if_true_, if_false_, reduceIte, Nat.reduceEqDiff, Nat.reduceAdd, Nat.reduceMul, Nat.reduceSub, Int.reduceToNat, Int.reduceAdd, Int.reduceNeg, Int.reduceSub, Int.reduceMul, Int.reduceBEq, Int.reduceBNe, Int.reduceLT, Int.reduceLE, Int.reduceEq, beq_self_eq_true, Int.reducePow, Nat.reducePow, Int.reduceDiv, Nat.reduceLeDiff, reduceCtorEq, Tryz.f171, Tryz.results171, bC100]
      exact ⟨H, hH _, h⟩
    · cases f1 : decide (res = []) <;> (simp -dsimp -failIfUnchanged (maxSteps := 2000000) (disch := omega) only [VA, if_true_, if_false_, reduceIte, Nat.reduceEqDiff, Nat.reduceAdd, Nat.reduceMul, Nat.reduceSub, Int.reduceToNat, Int.reduceAdd, Int.reduceNeg, Int.reduceSub, Int.reduceMul, Int.reduceBEq, Int.reduceBNe, Int.reduceLT, Int.reduceLE, Int.reduceEq, beq_self_eq_true, Int.reducePow, Nat.reducePow, Int.reduceDiv, Nat.reduceLeDiff, reduceCtorEq, Tryz.f171, Tryz.results171, bC100, f1]; exact ⟨H, hH _, h⟩)
  · cases slash <;> cases f1 : decide (res = [])
    case true.true =>
      rw [if_pos (.inr ⟨rfl, of_decide_eq_true f1⟩)] at h
      simp -dsimp -failIfUnchanged (maxSteps := 2000000) (disch := omega) only [VA, if_true_, if_false_, reduceIte, Nat.reduceEqDiff, Nat.reduceAdd, Nat.reduceMul, Nat.reduceSub, Int.reduceToNat, Int.reduceAdd, Int.reduceNeg, Int.reduceSub, Int.reduceMul, Int.reduceBEq, Int.reduceBNe, Int.reduceLT, Int.reduceLE, Int.reduceEq, beq_self_eq_true, Int.reducePow, Nat.reducePow, Int.reduceDiv, Nat.reduceLeDiff, reduceCtorEq, Tryz.f171, Tryz.results171, bC100, f1]
      exact ⟨H, hH _, h⟩
    all_goals
      rw [if_neg (by have := f1; simp at this ⊢; try exact this)] at h
      simp -dsimp -failIfUnchanged (maxSteps := 2000000) (disch := omega) only [VA, if_true_, if_false_, reduceIte, Nat.reduceEqDiff, Nat.reduceAdd, Nat.reduceMul, Nat.reduceSub, Int.reduceToNat, Int.reduceAdd, Int.reduceNeg, Int.reduceSub, Int.reduceMul, Int.reduceBEq, Int.reduceBNe, Int.reduceLT, Int.reduceLE, Int.reduceEq, beq_self_eq_true, Int.reducePow, Nat.reducePow, Int.reduceDiv, Nat.reduceLeDiff, reduceCtorEq, Tryz.f171, Tryz.results171, bC100, f1]
      intro c hc
      have hne : c ≠ a := by rintro rfl; simp [Mem.upd] at hc
      have hc' : ∀ x, (H.upd a x) c = none := fun x => by simpa [Mem.upd, hne] using hc
      have hH2 : ∀ x y, H.le ((H.upd a x).upd c y) := fun x y => Mem.le_upd' (Mem.le_upd ha _) (hc' _) _
      simp -dsimp -failIfUnchanged (maxSteps := 2000000) (disch := omega) only [VA, if_true_, if_false_, reduceIte, Nat.reduceEqDiff, Nat.reduceAdd, Nat.reduceMul, Nat.reduceSub, Int.reduceToNat, Int.reduceAdd, Int.reduceNeg, Int.reduceSub, Int.reduceMul, Int.reduceBEq, Int.reduceBNe, Int.reduceLT, Int.reduceLE, Int.reduceEq, beq_self_eq_true, Int.reducePow, Nat.reducePow, Int.reduceDiv, Nat.reduceLeDiff, reduceCtorEq, Tryz.f171, Tryz.results171, bC100, f1]
      refine check_W (hB.le (hH2 _ _)) (by omega) ?_
      generalize errA own place res = eA at h
      cases g1 : (eA == 0)
      · rw [if_neg (beq_eq_false_iff_ne.1 g1)] at h
        simp -dsimp -failIfUnchanged (maxSteps := 2000000) (disch := omega) only [VA, if_true_, if_false_, reduceIte, Nat.reduceEqDiff, Nat.reduceAdd, Nat.reduceMul, Nat.reduceSub, Int.reduceToNat, Int.reduceAdd, Int.reduceNeg, Int.reduceSub, Int.reduceMul, Int.reduceBEq, Int.reduceBNe, Int.reduceLT, Int.reduceLE, Int.reduceEq, beq_self_eq_true, Int.reducePow, Nat.reducePow, Int.reduceDiv, Nat.reduceLeDiff, reduceCtorEq, Tryz.f171, Tryz.results171, bC100, g1, _root_.bne]
        exact ⟨H, hH2 _ _, h⟩
      · rw [if_pos (eq_of_beq g1)] at h
        simp -dsimp -failIfUnchanged (maxSteps := 2000000) (disch := omega) only [VA, if_true_, if_false_, reduceIte, Nat.reduceEqDiff, Nat.reduceAdd, Nat.reduceMul, Nat.reduceSub, Int.reduceToNat, Int.reduceAdd, Int.reduceNeg, Int.reduceSub, Int.reduceMul, Int.reduceBEq, Int.reduceBNe, Int.reduceLT, Int.reduceLE, Int.reduceEq, beq_self_eq_true, Int.reducePow, Nat.reducePow, Int.reduceDiv, Nat.reduceLeDiff, reduceCtorEq, Tryz.f171, Tryz.results171, bC100, g1, _root_.bne]
        exact ⟨H, hH2 _ _, h⟩
def bare (s : List UInt8) : List UInt8 := if (parse s).e = 0 then (parse s).n ++ [64] ++ (parse s).p else []
theorem bare_W {s : List UInt8} (hB : Base H) (hs : s.length < 4294967281) (h : K (.tuple #[.string (bs (bare s)), .int .i64 (parse s).e]) H) : InvW Tryz.prog 116 #[.string (bs s)] H K := by
  refine InvW.weak ?_
  unfold bare at h
  have hl : (parse s).n.length + (parse s).p.length + (parse s).r.length ≤ s.length := parse_len s
  (refine invW_of_pw Tryz.func116 rfl rfl (by decide +kernel) (by simp [Tryz.f116]) ?_); simp -dsimp -failIfUnchanged (maxSteps := 2000000) (disch := omega) only [VA, if_true_, if_false_, reduceIte, Nat.reduceEqDiff, Nat.reduceAdd, Nat.reduceMul, Nat.reduceSub, Int.reduceToNat, Int.reduceAdd, Int.reduceNeg, Int.reduceSub, Int.reduceMul, Int.reduceBEq, Int.reduceBNe, Int.reduceLT, Int.reduceLE, Int.reduceEq, beq_self_eq_true, Int.reducePow, Nat.reducePow, Int.reduceDiv, Nat.reduceLeDiff, reduceCtorEq, Tryz.f116, Tryz.results116, bC101]
  refine parse_W hB hs ?_
  generalize parse s = q at h hl
  obtain ⟨n, p, r, e⟩ := q
  simp only at h hl
  simp -dsimp -failIfUnchanged (maxSteps := 2000000) (disch := omega) only [VA, if_true_, if_false_, reduceIte, Nat.reduceEqDiff, Nat.reduceAdd, Nat.reduceMul, Nat.reduceSub, Int.reduceToNat, Int.reduceAdd, Int.reduceNeg, Int.reduceSub, Int.reduceMul, Int.reduceBEq, Int.reduceBNe, Int.reduceLT, Int.reduceLE, Int.reduceEq, beq_self_eq_true, Int.reducePow, Nat.reducePow, Int.reduceDiv, Nat.reduceLeDiff, reduceCtorEq, Tryz.f116, Tryz.results116, bC101, addrV]
  intro c hc
  have hH : ∀ x, H.le (H.upd c x) := fun x => Mem.le_upd hc _
  cases g1 : (e == 0)
  · rw [if_neg (beq_eq_false_iff_ne.1 g1)] at h
    simp -dsimp -failIfUnchanged (maxSteps := 2000000) (disch := omega) only [VA, if_true_, if_false_, reduceIte, Nat.reduceEqDiff, Nat.reduceAdd, Nat.reduceMul, Nat.reduceSub, Int.reduceToNat, Int.reduceAdd, Int.reduceNeg, Int.reduceSub, Int.reduceMul, Int.reduceBEq, Int.reduceBNe, Int.reduceLT, Int.reduceLE, Int.reduceEq, beq_self_eq_true, Int.reducePow, Nat.reducePow, Int.reduceDiv, Nat.reduceLeDiff, reduceCtorEq, Tryz.f116, Tryz.results116, bC101, g1, _root_.bne]
    exact ⟨H, hH _, h⟩
  · rw [if_pos (eq_of_beq g1)] at h
    simp -dsimp -failIfUnchanged (maxSteps := 2000000) (disch := omega) only [VA, if_true_, if_false_, reduceIte, Nat.reduceEqDiff, Nat.reduceAdd, Nat.reduceMul, Nat.reduceSub, Int.reduceToNat, Int.reduceAdd, Int.reduceNeg, Int.reduceSub, Int.reduceMul, Int.reduceBEq, Int.reduceBNe, Int.reduceLT, Int.reduceLE, Int.reduceEq, beq_self_eq_true, Int.reducePow, Nat.reducePow, Int.reduceDiv, Nat.reduceLeDiff, reduceCtorEq, Tryz.f116, Tryz.results116, bC101, g1, _root_.bne]
    refine text_W (n := n) (p := p) (r := []) (by simp; omega) ?_
    simp -dsimp -failIfUnchanged (maxSteps := 2000000) (disch := omega) only [VA, if_true_, if_false_, reduceIte, Nat.reduceEqDiff, Nat.reduceAdd, Nat.reduceMul, Nat.reduceSub, Int.reduceToNat, Int.reduceAdd, Int.reduceNeg, Int.reduceSub, Int.reduceMul, Int.reduceBEq, Int.reduceBNe, Int.reduceLT, Int.reduceLE, Int.reduceEq, beq_self_eq_true, Int.reducePow, Nat.reducePow, Int.reduceDiv, Nat.reduceLeDiff, reduceCtorEq, Tryz.f116, Tryz.results116, bC101, g1, _root_.bne]
    obtain rfl := eq_of_beq g1
    exact ⟨H, hH _, h⟩
def isBare (s : List UInt8) : Bool := (parse s).e == 0 && decide (bare s = s)
theorem isBare_W {s : List UInt8} (hB : Base H) (hs : s.length < 4294967281) (h : K (.bool (isBare s)) H) : InvW Tryz.prog 68 #[.string (bs s)] H K := by
  unfold isBare at h
  (refine invW_of_pw Tryz.func68 rfl rfl (by decide +kernel) (by simp [Tryz.f68]) ?_); simp -dsimp -failIfUnchanged (maxSteps := 2000000) (disch := omega) only [VA, if_true_, if_false_, reduceIte, Nat.reduceEqDiff, Nat.reduceAdd, Nat.reduceMul, Nat.reduceSub, Int.reduceToNat, Int.reduceAdd, Int.reduceNeg, Int.reduceSub, Int.reduceMul, Int.reduceBEq, Int.reduceBNe, Int.reduceLT, Int.reduceLE, Int.reduceEq, beq_self_eq_true, Int.reducePow, Nat.reducePow, Int.reduceDiv, Nat.reduceLeDiff, reduceCtorEq, Tryz.f68, Tryz.results68, bC102]
  refine bare_W hB hs ?_
  cases g1 : ((parse s).e == 0)
  · simp -dsimp -failIfUnchanged (maxSteps := 2000000) (disch := omega) only [VA, if_true_, if_false_, reduceIte, Nat.reduceEqDiff, Nat.reduceAdd, Nat.reduceMul, Nat.reduceSub, Int.reduceToNat, Int.reduceAdd, Int.reduceNeg, Int.reduceSub, Int.reduceMul, Int.reduceBEq, Int.reduceBNe, Int.reduceLT, Int.reduceLE, Int.reduceEq, beq_self_eq_true, Int.reducePow, Nat.reducePow, Int.reduceDiv, Nat.reduceLeDiff, reduceCtorEq, Tryz.f68, Tryz.results68, bC102, g1]
    rw [g1] at h; exact h
  · simp -dsimp -failIfUnchanged (maxSteps := 2000000) (disch := omega) only [VA, if_true_, if_false_, reduceIte, Nat.reduceEqDiff, Nat.reduceAdd, Nat.reduceMul, Nat.reduceSub, Int.reduceToNat, Int.reduceAdd, Int.reduceNeg, Int.reduceSub, Int.reduceMul, Int.reduceBEq, Int.reduceBNe, Int.reduceLT, Int.reduceLE, Int.reduceEq, beq_self_eq_true, Int.reducePow, Nat.reducePow, Int.reduceDiv, Nat.reduceLeDiff, reduceCtorEq, Tryz.f68, Tryz.results68, bC102, g1]
    rw [g1] at h; exact h
end Go.Proofs.YtgkolnknobgcmaaGreat
end
section
namespace Go.Proofs.YtgkolnknobgcmaaGreat
open Go Go.Proofs.YtgkolnknobgcmaaGreatV
set_option maxRecDepth 20000
set_option linter.unusedSimpArgs false
set_option linter.unusedVariables false
theorem bC010 : type_of% @Tryz.underlying3 ∧ type_of% @ty3 ∧ type_of% @zero3 ∧ type_of% @Tryz.ntmps157 := ⟨@Tryz.underlying3, @ty3, @zero3, @Tryz.ntmps157⟩
theorem bC011 : type_of% @Tryz.underlying3 ∧ type_of% @ty3 ∧ type_of% @zero3 ∧ type_of% @Tryz.underlying5 ∧ type_of% @ty5 ∧ type_of% @zero5 ∧ type_of% @Tryz.underlying183 ∧ type_of% @einf183 ∧ type_of% @elt183 ∧ type_of% @ty183 ∧ type_of% @zero183 ∧ type_of% @Tryz.ntmps103 := ⟨@Tryz.underlying3, @ty3, @zero3, @Tryz.underlying5, @ty5, @zero5, @Tryz.underlying183, @einf183, @elt183, @ty183, @zero183, @Tryz.ntmps103⟩
theorem bC012 : type_of% @Tryz.underlying3 ∧ type_of% @ty3 ∧ type_of% @zero3 ∧ type_of% @Tryz.underlying5 ∧ type_of% @ty5 ∧ type_of% @zero5 ∧ type_of% @Tryz.underlying9 ∧ type_of% @ty9 ∧ type_of% @zero9 ∧ type_of% @Tryz.underlying183 ∧ type_of% @einf183 ∧ type_of% @elt183 ∧ type_of% @ty183 ∧ type_of% @zero183 ∧ type_of% @Tryz.ntmps101 := ⟨@Tryz.underlying3, @ty3, @zero3, @Tryz.underlying5, @ty5, @zero5, @Tryz.underlying9, @ty9, @zero9, @Tryz.underlying183, @einf183, @elt183, @ty183, @zero183, @Tryz.ntmps101⟩

variable {H : Mem} {K : Value → Mem → Prop}

theorem wide_yes {w : Int} (hw : w = 1 ∨ w = 2 ∨ w = 4 ∨ w = 6) (h : K (.bool true) H) : InvW Tryz.prog 157 #[.int .i64 w] H K := by
  rcases hw with rfl | rfl | rfl | rfl <;> ((refine invW_of_pw Tryz.func157 rfl rfl (by decide +kernel) (by simp [Tryz.f157]) ?_); simp -dsimp -failIfUnchanged (maxSteps := 2000000) (disch := omega) only [VA, if_true_, if_false_, reduceIte, Nat.reduceEqDiff, Nat.reduceAdd, Nat.reduceMul, Nat.reduceSub, Int.reduceToNat, Int.reduceAdd, Int.reduceNeg, Int.reduceSub, Int.reduceMul, Int.reduceBEq, Int.reduceBNe, Int.reduceLT, Int.reduceLE, Int.reduceEq, beq_self_eq_true, Int.reducePow, Nat.reducePow, Int.reduceDiv, Nat.reduceLeDiff, reduceCtorEq, Tryz.f157, Tryz.results157, bC010]; exact h)

/-- A number's bytes, the highest first. -/
def be : Nat → Int → List UInt8
  | 0, _ => []
  | w + 1, n => UInt8.ofNat (n / 256 ^ w % 256).toNat :: be w n
theorem be_length (w : Nat) (n : Int) : (be w n).length = w := by induction w with
  | zero => rfl
  | succ w ih => simp [be, ih]
theorem ofNat_toNat {n : Int} (h : 0 ≤ n ∧ n < 256) : ((UInt8.ofNat n.toNat).toNat : Int) = n := by
  rw [UInt8.toNat_ofNat_of_lt' (by simp [UInt8.size]; omega)]; omega
theorem byC_be (w : Nat) (n : Int) : byC (be (w + 1) n) = .int .u8 (n / 256 ^ w % 256) :: byC (be w n) := by
  simp only [byC, be, List.map_cons]
  rw [ofNat_toNat (by omega)]
theorem u8_mod (n : Int) : IntKind.u8.wrap n = n % 256 := by rw [IntKind.wrap_u8]
theorem splice_zeros (m : Nat) (x : Value) (z : Value) (r : List Value) : splice (List.replicate (m + 1) z ++ r) m [x] = List.replicate m z ++ x :: r := by
  unfold splice
  rw [List.take_append_of_le_length (by simp), List.take_replicate, Nat.min_eq_left (by omega)]
  simp [List.replicate_succ', List.append_assoc, List.drop_append]
theorem two_pow8 (i : Nat) : (2 : Int) ^ (8 * i) = 256 ^ i := by rw [Int.pow_mul]; rfl

theorem lay_core {n : Int} {w : Nat} (hw : w = 1 ∨ w = 2 ∨ w = 4 ∨ w = 6) (h0 : 0 ≤ n) (c2 : (n / 2 ^ (8 * (w : Int)).toNat != 0) = false)
    (h : ∀ b, H b = none → K (.tuple #[.slice (some ⟨b, 0, none⟩) w w, .int .i64 0]) (H.upd b ⟨true, w, byC (be w n)⟩)) : InvW Tryz.prog 103 #[.int .i64 n, .int .i64 w] H K := by
  have c1 : decide (n < 0) = false := by simpa using h0
  (refine invW_of_pw Tryz.func103 rfl rfl (by decide +kernel) (by simp [Tryz.f103]) ?_); simp -dsimp -failIfUnchanged (maxSteps := 2000000) (disch := omega) only [VA, if_true_, if_false_, reduceIte, Nat.reduceEqDiff, Nat.reduceAdd, Nat.reduceMul, Nat.reduceSub, Int.reduceToNat, Int.reduceAdd, Int.reduceNeg, Int.reduceSub, Int.reduceMul, Int.reduceBEq, Int.reduceBNe, Int.reduceLT, Int.reduceLE, Int.reduceEq, beq_self_eq_true, Int.reducePow, Nat.reducePow, Int.reduceDiv, Nat.reduceLeDiff, reduceCtorEq, Tryz.f103, Tryz.results103, bC011]
  refine wide_yes (by omega) ?_
  simp -dsimp -failIfUnchanged (maxSteps := 2000000) (disch := omega) only [VA, if_true_, if_false_, reduceIte, Nat.reduceEqDiff, Nat.reduceAdd, Nat.reduceMul, Nat.reduceSub, Int.reduceToNat, Int.reduceAdd, Int.reduceNeg, Int.reduceSub, Int.reduceMul, Int.reduceBEq, Int.reduceBNe, Int.reduceLT, Int.reduceLE, Int.reduceEq, beq_self_eq_true, Int.reducePow, Nat.reducePow, Int.reduceDiv, Nat.reduceLeDiff, reduceCtorEq, Tryz.f103, Tryz.results103, bC011, c1, c2]
  refine semW_make (make_W einf183 rfl (by omega) (by omega) (by omega) (by omega) fun b hb => ?_)
  simp -dsimp -failIfUnchanged (maxSteps := 2000000) (disch := omega) only [VA, if_true_, if_false_, reduceIte, Nat.reduceEqDiff, Nat.reduceAdd, Nat.reduceMul, Nat.reduceSub, Int.reduceToNat, Int.reduceAdd, Int.reduceNeg, Int.reduceSub, Int.reduceMul, Int.reduceBEq, Int.reduceBNe, Int.reduceLT, Int.reduceLE, Int.reduceEq, beq_self_eq_true, Int.reducePow, Nat.reducePow, Int.reduceDiv, Nat.reduceLeDiff, reduceCtorEq, Tryz.f103, Tryz.results103, bC011, zerosL_one, Int.toNat_natCast]
  refine loop_enter (loop_ind (by decide +kernel) (fun (i : Nat) e H' => e.ds = [] ∧ e 0 = .int .i64 n ∧ e 1 = .int .i64 w ∧ e 6 = .slice (some ⟨b, 0, none⟩) w w ∧ e 22 = .int .i64 w ∧ e 23 = .int .i64 i ∧ i ≤ w ∧
    H' = H.upd b ⟨true, w, List.replicate (w - i) (.int .u8 0) ++ byC (be i n)⟩) (fun i => w - i) ?_ 0 _ _ ?_)
  · rintro i e H' ⟨ed, e0, e1, e6, e22, e23, hi, rfl⟩ ih
    by_cases hlt : i < w
    · have c3 : decide ((i : Int) < w) = true := by simpa using hlt
      obtain ⟨m, hm⟩ : ∃ m, w - i = m + 1 := ⟨w - i - 1, by omega⟩
      have hidx : ((w : Int) - 1 - i).toNat = m := by omega
      have hlen : m + 1 ≤ (List.replicate (m + 1) (Value.int .u8 0) ++ byC (be i n)).length := by simp
      have hmw : m + 1 ≤ w := by omega
      have hsh : ((8 : Int) * i).toNat = 8 * i := by omega
      simp -dsimp -failIfUnchanged (maxSteps := 2000000) (disch := omega) only [VA, if_true_, if_false_, reduceIte, Nat.reduceEqDiff, Nat.reduceAdd, Nat.reduceMul, Nat.reduceSub, Int.reduceToNat, Int.reduceAdd, Int.reduceNeg, Int.reduceSub, Int.reduceMul, Int.reduceBEq, Int.reduceBNe, Int.reduceLT, Int.reduceLE, Int.reduceEq, beq_self_eq_true, Int.reducePow, Nat.reducePow, Int.reduceDiv, Nat.reduceLeDiff, reduceCtorEq, Tryz.f103, Tryz.results103, bC011, c3, ed, e0, e1, e6, e22, e23, hidx, hm, hsh, two_pow8, u8_mod, splice_zeros, Nat.mul_one, Int.toNat_natCast]
      refine ih (i + 1) _ _ ?_ (by omega)
      have hwi : w - (i + 1) = m := by omega
      have hw1 : (i : Int) + 1 = ((i + 1 : Nat) : Int) := by omega
      simp -dsimp -failIfUnchanged (maxSteps := 2000000) (disch := omega) only [VA, if_true_, if_false_, reduceIte, Nat.reduceEqDiff, Nat.reduceAdd, Nat.reduceMul, Nat.reduceSub, Int.reduceToNat, Int.reduceAdd, Int.reduceNeg, Int.reduceSub, Int.reduceMul, Int.reduceBEq, Int.reduceBNe, Int.reduceLT, Int.reduceLE, Int.reduceEq, beq_self_eq_true, Int.reducePow, Nat.reducePow, Int.reduceDiv, Nat.reduceLeDiff, reduceCtorEq, Tryz.f103, Tryz.results103, bC011, ed, e0, e1, e6, e22, e23, hwi, byC_be]
      refine ⟨trivial, trivial, trivial, trivial, trivial, by rw [hw1], by omega, congrArg (fun cs => H.upd b ⟨true, w, cs⟩) (splice_zeros m _ _ _)⟩
    · have c3 : decide ((i : Int) < w) = false := by simp; omega
      obtain rfl : i = w := by omega
      simp -dsimp -failIfUnchanged (maxSteps := 2000000) (disch := omega) only [VA, if_true_, if_false_, reduceIte, Nat.reduceEqDiff, Nat.reduceAdd, Nat.reduceMul, Nat.reduceSub, Int.reduceToNat, Int.reduceAdd, Int.reduceNeg, Int.reduceSub, Int.reduceMul, Int.reduceBEq, Int.reduceBNe, Int.reduceLT, Int.reduceLE, Int.reduceEq, beq_self_eq_true, Int.reducePow, Nat.reducePow, Int.reduceDiv, Nat.reduceLeDiff, reduceCtorEq, Tryz.f103, Tryz.results103, bC011, c3, ed, e0, e1, e6, e22, e23, Nat.sub_self, List.replicate]
      exact h b hb
  · simp -dsimp -failIfUnchanged (maxSteps := 2000000) (disch := omega) only [VA, if_true_, if_false_, reduceIte, Nat.reduceEqDiff, Nat.reduceAdd, Nat.reduceMul, Nat.reduceSub, Int.reduceToNat, Int.reduceAdd, Int.reduceNeg, Int.reduceSub, Int.reduceMul, Int.reduceBEq, Int.reduceBNe, Int.reduceLT, Int.reduceLE, Int.reduceEq, beq_self_eq_true, Int.reducePow, Nat.reducePow, Int.reduceDiv, Nat.reduceLeDiff, reduceCtorEq, Tryz.f103, Tryz.results103, bC011, be, byC_nil, Nat.sub_zero, List.append_nil, Nat.mul_one]
    refine ⟨trivial, trivial, trivial, trivial, trivial, ?_, by omega, ?_⟩ <;> first | trivial | rfl

/-- Lay: a number that fits. -/
theorem lay_ok {n w : Int} (hw : w = 1 ∨ w = 2 ∨ w = 4 ∨ w = 6) (h0 : 0 ≤ n) (h1 : n < 256 ^ w.toNat)
    (h : ∀ b, H b = none → K (.tuple #[.slice (some ⟨b, 0, none⟩) w.toNat w.toNat, .int .i64 0]) (H.upd b ⟨true, w.toNat, byC (be w.toNat n)⟩)) : InvW Tryz.prog 103 #[.int .i64 n, .int .i64 w] H K := by
  rcases hw with rfl | rfl | rfl | rfl
  · exact lay_core (w := 1) (by omega) h0 (by simp at h1 ⊢; omega) h
  · exact lay_core (w := 2) (by omega) h0 (by simp at h1 ⊢; omega) h
  · exact lay_core (w := 4) (by omega) h0 (by simp at h1 ⊢; omega) h
  · exact lay_core (w := 6) (by omega) h0 (by simp at h1 ⊢; omega) h

/-- Lay: a number that does not fit. -/
theorem lay_no {n w : Int} (hw : w = 1 ∨ w = 2 ∨ w = 4 ∨ w = 6) (hn : n < 0 ∨ 256 ^ w.toNat ≤ n)
    (h : K (.tuple #[.slice none 0 0, .int .i64 8]) H) : InvW Tryz.prog 103 #[.int .i64 n, .int .i64 w] H K := by
  have key : decide (n < 0) = true ∨ (decide (n < 0) = false ∧ (n / 2 ^ (8 * w).toNat != 0) = true) := by
    by_cases c : n < 0
    · exact .inl (by simpa using c)
    · refine .inr ⟨by simpa using c, ?_⟩
      have hn' := hn.resolve_left c
      rcases hw with rfl | rfl | rfl | rfl <;> (simp at hn' ⊢; omega)
  rcases key with c1 | ⟨c1, c2⟩
  · (refine invW_of_pw Tryz.func103 rfl rfl (by decide +kernel) (by simp [Tryz.f103]) ?_); simp -dsimp -failIfUnchanged (maxSteps := 2000000) (disch := omega) only [VA, if_true_, if_false_, reduceIte, Nat.reduceEqDiff, Nat.reduceAdd, Nat.reduceMul, Nat.reduceSub, Int.reduceToNat, Int.reduceAdd, Int.reduceNeg, Int.reduceSub, Int.reduceMul, Int.reduceBEq, Int.reduceBNe, Int.reduceLT, Int.reduceLE, Int.reduceEq, beq_self_eq_true, Int.reducePow, Nat.reducePow, Int.reduceDiv, Nat.reduceLeDiff, reduceCtorEq, Tryz.f103, Tryz.results103, bC011]
    refine wide_yes (by omega) ?_
    simp -dsimp -failIfUnchanged (maxSteps := 2000000) (disch := omega) only [VA, if_true_, if_false_, reduceIte, Nat.reduceEqDiff, Nat.reduceAdd, Nat.reduceMul, Nat.reduceSub, Int.reduceToNat, Int.reduceAdd, Int.reduceNeg, Int.reduceSub, Int.reduceMul, Int.reduceBEq, Int.reduceBNe, Int.reduceLT, Int.reduceLE, Int.reduceEq, beq_self_eq_true, Int.reducePow, Nat.reducePow, Int.reduceDiv, Nat.reduceLeDiff, reduceCtorEq, Tryz.f103, Tryz.results103, bC011, c1]
    exact h
  · (refine invW_of_pw Tryz.func103 rfl rfl (by decide +kernel) (by simp [Tryz.f103]) ?_); simp -dsimp -failIfUnchanged (maxSteps := 2000000) (disch := omega) only [VA, if_true_, if_false_, reduceIte, Nat.reduceEqDiff, Nat.reduceAdd, Nat.reduceMul, Nat.reduceSub, Int.reduceToNat, Int.reduceAdd, Int.reduceNeg, Int.reduceSub, Int.reduceMul, Int.reduceBEq, Int.reduceBNe, Int.reduceLT, Int.reduceLE, Int.reduceEq, beq_self_eq_true, Int.reducePow, Nat.reducePow, Int.reduceDiv, Nat.reduceLeDiff, reduceCtorEq, Tryz.f103, Tryz.results103, bC011]
    refine wide_yes (by omega) ?_
    simp -dsimp -failIfUnchanged (maxSteps := 2000000) (disch := omega) only [VA, if_true_, if_false_, reduceIte, Nat.reduceEqDiff, Nat.reduceAdd, Nat.reduceMul, Nat.reduceSub, Int.reduceToNat, Int.reduceAdd, Int.reduceNeg, Int.reduceSub, Int.reduceMul, Int.reduceBEq, Int.reduceBNe, Int.reduceLT, Int.reduceLE, Int.reduceEq, beq_self_eq_true, Int.reducePow, Nat.reducePow, Int.reduceDiv, Nat.reduceLeDiff, reduceCtorEq, Tryz.f103, Tryz.results103, bC011, c1, c2]
    exact h
/-- Say. -/
theorem say_ok {s : List UInt8} {m : Int} (h0 : (s.length : Int) ≤ m) (h1 : s.length ≤ 255)
    (h : ∀ v H', OwnV 1 H v (s.length + 1) (byC (UInt8.ofNat s.length :: s)) H' → K (.tuple #[v, .int .i64 0]) H') : InvW Tryz.prog 101 #[.string (bs s), .int .i64 m] H K := by
  have c1 : decide ((if (255 : Int) < m then 255 else m) < (s.length : Int)) = false := by simp; split <;> omega
  have c2 : (UInt8.ofNat s.length).toNat = s.length := UInt8.toNat_ofNat_of_lt' (by simp [UInt8.size]; omega)
  (refine invW_of_pw Tryz.func101 rfl rfl (by decide +kernel) (by simp [Tryz.f101]) ?_); simp -dsimp -failIfUnchanged (maxSteps := 2000000) (disch := omega) only [VA, if_true_, if_false_, reduceIte, Nat.reduceEqDiff, Nat.reduceAdd, Nat.reduceMul, Nat.reduceSub, Int.reduceToNat, Int.reduceAdd, Int.reduceNeg, Int.reduceSub, Int.reduceMul, Int.reduceBEq, Int.reduceBNe, Int.reduceLT, Int.reduceLE, Int.reduceEq, beq_self_eq_true, Int.reducePow, Nat.reducePow, Int.reduceDiv, Nat.reduceLeDiff, reduceCtorEq, Tryz.f101, Tryz.results101, bC012, bs_size, c1]
  refine semW_build ?_
  simp -dsimp -failIfUnchanged (maxSteps := 2000000) (disch := omega) only [VA, if_true_, if_false_, reduceIte, Nat.reduceEqDiff, Nat.reduceAdd, Nat.reduceMul, Nat.reduceSub, Int.reduceToNat, Int.reduceAdd, Int.reduceNeg, Int.reduceSub, Int.reduceMul, Int.reduceBEq, Int.reduceBNe, Int.reduceLT, Int.reduceLE, Int.reduceEq, beq_self_eq_true, Int.reducePow, Nat.reducePow, Int.reduceDiv, Nat.reduceLeDiff, reduceCtorEq, Tryz.f101, Tryz.results101, bC012, bs_size]
  refine build_W (cs := byC [UInt8.ofNat s.length]) einf183 rfl (by decide) ?_ fun b hb => ?_
  · simp -dsimp -failIfUnchanged (maxSteps := 2000000) (disch := omega) only [VA, if_true_, if_false_, reduceIte, Nat.reduceEqDiff, Nat.reduceAdd, Nat.reduceMul, Nat.reduceSub, Int.reduceToNat, Int.reduceAdd, Int.reduceNeg, Int.reduceSub, Int.reduceMul, Int.reduceBEq, Int.reduceBNe, Int.reduceLT, Int.reduceLE, Int.reduceEq, beq_self_eq_true, Int.reducePow, Nat.reducePow, Int.reduceDiv, Nat.reduceLeDiff, reduceCtorEq, Tryz.f101, Tryz.results101, bC012, zerosL, byC, c2]
  simp -dsimp -failIfUnchanged (maxSteps := 2000000) (disch := omega) only [VA, if_true_, if_false_, reduceIte, Nat.reduceEqDiff, Nat.reduceAdd, Nat.reduceMul, Nat.reduceSub, Int.reduceToNat, Int.reduceAdd, Int.reduceNeg, Int.reduceSub, Int.reduceMul, Int.reduceBEq, Int.reduceBNe, Int.reduceLT, Int.reduceLE, Int.reduceEq, beq_self_eq_true, Int.reducePow, Nat.reducePow, Int.reduceDiv, Nat.reduceLeDiff, reduceCtorEq, Tryz.f101, Tryz.results101, bC012, bs_size]
  refine semW_append ?_
  simp -dsimp -failIfUnchanged (maxSteps := 2000000) (disch := omega) only [VA, if_true_, if_false_, reduceIte, Nat.reduceEqDiff, Nat.reduceAdd, Nat.reduceMul, Nat.reduceSub, Int.reduceToNat, Int.reduceAdd, Int.reduceNeg, Int.reduceSub, Int.reduceMul, Int.reduceBEq, Int.reduceBNe, Int.reduceLT, Int.reduceLE, Int.reduceEq, beq_self_eq_true, Int.reducePow, Nat.reducePow, Int.reduceDiv, Nat.reduceLeDiff, reduceCtorEq, Tryz.f101, Tryz.results101, bC012, bs_size]
  refine append_own_str einf183 Tryz.underlying9 (OwnV.new hb rfl) (by omega) fun v H' ho => ?_
  simp -dsimp -failIfUnchanged (maxSteps := 2000000) (disch := omega) only [VA, if_true_, if_false_, reduceIte, Nat.reduceEqDiff, Nat.reduceAdd, Nat.reduceMul, Nat.reduceSub, Int.reduceToNat, Int.reduceAdd, Int.reduceNeg, Int.reduceSub, Int.reduceMul, Int.reduceBEq, Int.reduceBNe, Int.reduceLT, Int.reduceLE, Int.reduceEq, beq_self_eq_true, Int.reducePow, Nat.reducePow, Int.reduceDiv, Nat.reduceLeDiff, reduceCtorEq, Tryz.f101, Tryz.results101, bC012, bs_size]
  exact h v H' (by simpa [Nat.add_comm] using ho)
theorem say_no {s : List UInt8} {m : Int} (h0 : m < s.length ∨ 255 < s.length) (h1 : s.length ≤ 9223372036854775807)
    (h : K (.tuple #[.slice none 0 0, .int .i64 5]) H) : InvW Tryz.prog 101 #[.string (bs s), .int .i64 m] H K := by
  have c1 : decide ((if (255 : Int) < m then 255 else m) < (s.length : Int)) = true := by simp; split <;> omega
  (refine invW_of_pw Tryz.func101 rfl rfl (by decide +kernel) (by simp [Tryz.f101]) ?_); simp -dsimp -failIfUnchanged (maxSteps := 2000000) (disch := omega) only [VA, if_true_, if_false_, reduceIte, Nat.reduceEqDiff, Nat.reduceAdd, Nat.reduceMul, Nat.reduceSub, Int.reduceToNat, Int.reduceAdd, Int.reduceNeg, Int.reduceSub, Int.reduceMul, Int.reduceBEq, Int.reduceBNe, Int.reduceLT, Int.reduceLE, Int.reduceEq, beq_self_eq_true, Int.reducePow, Nat.reducePow, Int.reduceDiv, Nat.reduceLeDiff, reduceCtorEq, Tryz.f101, Tryz.results101, bC012, bs_size, c1]
  exact h
end Go.Proofs.YtgkolnknobgcmaaGreat
end
section
namespace Go.Proofs.YtgkolnknobgcmaaGreat
open Go Go.Proofs.YtgkolnknobgcmaaGreatV Go.Shelf
set_option maxRecDepth 20000
set_option linter.unusedSimpArgs false
set_option linter.unusedVariables false
set_option maxHeartbeats 4000000
theorem bC110 : type_of% @Tryz.underlying5 ∧ type_of% @ty5 ∧ type_of% @zero5 ∧ type_of% @Tryz.ntmps63 := ⟨@Tryz.underlying5, @ty5, @zero5, @Tryz.ntmps63⟩
variable {H : Mem} {K : Value → Mem → Prop}

/-- What a kind has. -/
def hasK (k : Int) : List UInt8 :=
  if k == 1 then [117, 114] else
  if k == 3 then [115, 112] else
  if k == 5 then [117, 115, 112] else
  if k == 6 then [117] else
  if k == 7 then [117] else
  if k == 8 then [117] else
  if k == 9 then [117] else
  if k == 10 then [117] else
  if k == 11 then [117] else
  if k == 14 then [117] else
  if k == 12 then [110] else
  if k == 15 then [110] else
  if k == 36 then [110] else
  if k == 41 then [110] else
  if k == 13 then [117, 109] else
  if k == 32 then [99, 110] else
  if k == 33 then [99, 115, 110] else
  if k == 34 then [117, 114, 115, 112, 110] else
  if k == 35 then [117, 114, 110] else
  if k == 38 then [117, 109, 115, 110] else
  if k == 39 then [117, 110] else
  if k == 40 then [117, 99] else
  []
theorem has_W {k : Int} (h : K (.string (bs (hasK k))) H) : InvW Tryz.prog 63 #[.int .u8 k] H K := by
  by_cases hk : k = 1 ∨ k = 3 ∨ k = 5 ∨ k = 6 ∨ k = 7 ∨ k = 8 ∨ k = 9 ∨ k = 10 ∨ k = 11 ∨ k = 14 ∨ k = 12 ∨ k = 15 ∨ k = 36 ∨ k = 41 ∨ k = 13 ∨ k = 32 ∨ k = 33 ∨ k = 34 ∨ k = 35 ∨ k = 38 ∨ k = 39 ∨ k = 40
  · rcases hk with rfl | rfl | rfl | rfl | rfl | rfl | rfl | rfl | rfl | rfl | rfl | rfl | rfl | rfl | rfl | rfl | rfl | rfl | rfl | rfl | rfl | rfl <;> ((refine invW_of_pw Tryz.func63 rfl rfl (by decide +kernel) (by simp [Tryz.f63]) ?_); simp -dsimp -failIfUnchanged (maxSteps := 2000000) (disch := omega) only [VA, if_true_, if_false_, reduceIte, Nat.reduceEqDiff, Nat.reduceAdd, Nat.reduceMul, Nat.reduceSub, Int.reduceToNat, Int.reduceAdd, Int.reduceNeg, Int.reduceSub, Int.reduceMul, Int.reduceBEq, Int.reduceBNe, Int.reduceLT, Int.reduceLE, Int.reduceEq, beq_self_eq_true, Int.reducePow, Nat.reducePow, Int.reduceDiv, Nat.reduceLeDiff, reduceCtorEq, Tryz.f63, Tryz.results63, bC110]; exact h)
  · simp only [not_or] at hk
    obtain ⟨n1, n3, n5, n6, n7, n8, n9, n10, n11, n14, n12, n15, n36, n41, n13, n32, n33, n34, n35, n38, n39, n40⟩ := hk
    have c1 : (k == 1) = false := beq_eq_false_iff_ne.2 n1
    have c3 : (k == 3) = false := beq_eq_false_iff_ne.2 n3
    have c5 : (k == 5) = false := beq_eq_false_iff_ne.2 n5
    have c6 : (k == 6) = false := beq_eq_false_iff_ne.2 n6
    have c7 : (k == 7) = false := beq_eq_false_iff_ne.2 n7
    have c8 : (k == 8) = false := beq_eq_false_iff_ne.2 n8
    have c9 : (k == 9) = false := beq_eq_false_iff_ne.2 n9
    have c10 : (k == 10) = false := beq_eq_false_iff_ne.2 n10
    have c11 : (k == 11) = false := beq_eq_false_iff_ne.2 n11
    have c14 : (k == 14) = false := beq_eq_false_iff_ne.2 n14
    have c12 : (k == 12) = false := beq_eq_false_iff_ne.2 n12
    have c15 : (k == 15) = false := beq_eq_false_iff_ne.2 n15
    have c36 : (k == 36) = false := beq_eq_false_iff_ne.2 n36
    have c41 : (k == 41) = false := beq_eq_false_iff_ne.2 n41
    have c13 : (k == 13) = false := beq_eq_false_iff_ne.2 n13
    have c32 : (k == 32) = false := beq_eq_false_iff_ne.2 n32
    have c33 : (k == 33) = false := beq_eq_false_iff_ne.2 n33
    have c34 : (k == 34) = false := beq_eq_false_iff_ne.2 n34
    have c35 : (k == 35) = false := beq_eq_false_iff_ne.2 n35
    have c38 : (k == 38) = false := beq_eq_false_iff_ne.2 n38
    have c39 : (k == 39) = false := beq_eq_false_iff_ne.2 n39
    have c40 : (k == 40) = false := beq_eq_false_iff_ne.2 n40
    have hh : hasK k = [] := by simp only [hasK, c1, c3, c5, c6, c7, c8, c9, c10, c11, c14, c12, c15, c36, c41, c13, c32, c33, c34, c35, c38, c39, c40]; rfl
    rw [hh] at h
    (refine invW_of_pw Tryz.func63 rfl rfl (by decide +kernel) (by simp [Tryz.f63]) ?_); simp -dsimp -failIfUnchanged (maxSteps := 2000000) (disch := omega) only [VA, if_true_, if_false_, reduceIte, Nat.reduceEqDiff, Nat.reduceAdd, Nat.reduceMul, Nat.reduceSub, Int.reduceToNat, Int.reduceAdd, Int.reduceNeg, Int.reduceSub, Int.reduceMul, Int.reduceBEq, Int.reduceBNe, Int.reduceLT, Int.reduceLE, Int.reduceEq, beq_self_eq_true, Int.reducePow, Nat.reducePow, Int.reduceDiv, Nat.reduceLeDiff, reduceCtorEq, Tryz.f63, Tryz.results63, bC110, c1, c3, c5, c6, c7, c8, c9, c10, c11, c14, c12, c15, c36, c41, c13, c32, c33, c34, c35, c38, c39, c40]
    exact h
end Go.Proofs.YtgkolnknobgcmaaGreat
end
section
namespace Go.Proofs.YtgkolnknobgcmaaGreat
open Go Go.Proofs.YtgkolnknobgcmaaGreatV Go.Shelf
set_option maxRecDepth 20000
set_option linter.unusedSimpArgs false
set_option linter.unusedVariables false
set_option maxHeartbeats 4000000
theorem bC120 : type_of% @Tryz.underlying5 ∧ type_of% @ty5 ∧ type_of% @zero5 ∧ type_of% @Tryz.underlying64 ∧ type_of% @elt64 ∧ type_of% @fld64_0 ∧ type_of% @fld64_1 ∧ type_of% @fld64_2 ∧ type_of% @fld64_3 ∧ type_of% @fld64_4 ∧ type_of% @fld64_5 ∧ type_of% @fld64_6 ∧ type_of% @fld64_7 ∧ type_of% @flds64 ∧ type_of% @ty64 ∧ type_of% @zero64 ∧ type_of% @Tryz.ntmps155 := ⟨@Tryz.underlying5, @ty5, @zero5, @Tryz.underlying64, @elt64, @fld64_0, @fld64_1, @fld64_2, @fld64_3, @fld64_4, @fld64_5, @fld64_6, @fld64_7, @flds64, @ty64, @zero64, @Tryz.ntmps155⟩
theorem bC121 : type_of% @Tryz.underlying5 ∧ type_of% @ty5 ∧ type_of% @zero5 ∧ type_of% @Tryz.underlying64 ∧ type_of% @elt64 ∧ type_of% @fld64_0 ∧ type_of% @fld64_1 ∧ type_of% @fld64_2 ∧ type_of% @fld64_3 ∧ type_of% @fld64_4 ∧ type_of% @fld64_5 ∧ type_of% @fld64_6 ∧ type_of% @fld64_7 ∧ type_of% @flds64 ∧ type_of% @ty64 ∧ type_of% @zero64 ∧ type_of% @Tryz.ntmps156 := ⟨@Tryz.underlying5, @ty5, @zero5, @Tryz.underlying64, @elt64, @fld64_0, @fld64_1, @fld64_2, @fld64_3, @fld64_4, @fld64_5, @fld64_6, @fld64_7, @flds64, @ty64, @zero64, @Tryz.ntmps156⟩
theorem bC122 : type_of% @Tryz.underlying3 ∧ type_of% @ty3 ∧ type_of% @zero3 ∧ type_of% @Tryz.underlying5 ∧ type_of% @ty5 ∧ type_of% @zero5 ∧ type_of% @Tryz.underlying9 ∧ type_of% @ty9 ∧ type_of% @zero9 ∧ type_of% @Tryz.underlying64 ∧ type_of% @elt64 ∧ type_of% @fld64_0 ∧ type_of% @fld64_1 ∧ type_of% @fld64_2 ∧ type_of% @fld64_3 ∧ type_of% @fld64_4 ∧ type_of% @fld64_5 ∧ type_of% @fld64_6 ∧ type_of% @fld64_7 ∧ type_of% @flds64 ∧ type_of% @ty64 ∧ type_of% @zero64 ∧ type_of% @Tryz.underlying183 ∧ type_of% @einf183 ∧ type_of% @elt183 ∧ type_of% @ty183 ∧ type_of% @zero183 ∧ type_of% @Tryz.underlying205 ∧ type_of% @ty205 ∧ type_of% @zero205 ∧ type_of% @Tryz.underlying209 ∧ type_of% @ty209 ∧ type_of% @zero209 ∧ type_of% @Tryz.underlying263 ∧ type_of% @ty263 ∧ type_of% @zero263 ∧ type_of% @Tryz.ntmps99 := ⟨@Tryz.underlying3, @ty3, @zero3, @Tryz.underlying5, @ty5, @zero5, @Tryz.underlying9, @ty9, @zero9, @Tryz.underlying64, @elt64, @fld64_0, @fld64_1, @fld64_2, @fld64_3, @fld64_4, @fld64_5, @fld64_6, @fld64_7, @flds64, @ty64, @zero64, @Tryz.underlying183, @einf183, @elt183, @ty183, @zero183, @Tryz.underlying205, @ty205, @zero205, @Tryz.underlying209, @ty209, @zero209, @Tryz.underlying263, @ty263, @zero263, @Tryz.ntmps99⟩
variable {H : Mem} {K : Value → Mem → Prop}

def pf (b o : Nat) : Value := .pointer (some ⟨b, o, none⟩)
def textV (b : Nat) (c : UInt8) : Value × Int := if c = 117 then (pf b 1, 33) else if c = 114 then (pf b 2, 12) else if c = 109 then (pf b 3, 24) else (.pointer none, 0)
def numV (b : Nat) (c : UInt8) : Value × Int × Int := if c = 115 then (pf b 4, 1, 0) else if c = 112 then (pf b 5, 1, 128) else if c = 99 then (pf b 6, 1, 0) else (pf b 7, 6, 0)
theorem text_W' {b : Nat} {c : UInt8} (h : K (.tuple #[(textV b c).1, .int .i64 (textV b c).2]) H) : InvW Tryz.prog 155 #[pf b 0, .int .u8 c.toNat] H K := by
  unfold textV at h
  have e1 := u8_beq c 117; have e2 := u8_beq c 114; have e3 := u8_beq c 109
  unfold pf at h ⊢
  cases c1 : ((c.toNat : Int) == 117)
  · have n1 : ¬ c = 117 := by rw [show ((117 : UInt8).toNat : Int) = 117 from rfl, c1] at e1; exact beq_eq_false_iff_ne.1 e1
    rw [if_neg n1] at h
    cases c2 : ((c.toNat : Int) == 114)
    · have n1 : ¬ c = 114 := by rw [show ((114 : UInt8).toNat : Int) = 114 from rfl, c2] at e2; exact beq_eq_false_iff_ne.1 e2
      rw [if_neg n1] at h
      cases c3 : ((c.toNat : Int) == 109)
      · have n1 : ¬ c = 109 := by rw [show ((109 : UInt8).toNat : Int) = 109 from rfl, c3] at e3; exact beq_eq_false_iff_ne.1 e3
        rw [if_neg n1] at h
        (refine invW_of_pw Tryz.func155 rfl rfl (by decide +kernel) (by simp [Tryz.f155]) ?_); simp -dsimp -failIfUnchanged (maxSteps := 2000000) (disch := omega) only [VA, if_true_, if_false_, reduceIte, Nat.reduceEqDiff, Nat.reduceAdd, Nat.reduceMul, Nat.reduceSub, Int.reduceToNat, Int.reduceAdd, Int.reduceNeg, Int.reduceSub, Int.reduceMul, Int.reduceBEq, Int.reduceBNe, Int.reduceLT, Int.reduceLE, Int.reduceEq, beq_self_eq_true, Int.reducePow, Nat.reducePow, Int.reduceDiv, Nat.reduceLeDiff, reduceCtorEq, Tryz.f155, Tryz.results155, bC120, c1, c2, c3]
        exact h
      · have n1 : c = 109 := by rw [show ((109 : UInt8).toNat : Int) = 109 from rfl, c3] at e3; exact eq_of_beq e3
        rw [if_pos n1] at h
        (refine invW_of_pw Tryz.func155 rfl rfl (by decide +kernel) (by simp [Tryz.f155]) ?_); simp -dsimp -failIfUnchanged (maxSteps := 2000000) (disch := omega) only [VA, if_true_, if_false_, reduceIte, Nat.reduceEqDiff, Nat.reduceAdd, Nat.reduceMul, Nat.reduceSub, Int.reduceToNat, Int.reduceAdd, Int.reduceNeg, Int.reduceSub, Int.reduceMul, Int.reduceBEq, Int.reduceBNe, Int.reduceLT, Int.reduceLE, Int.reduceEq, beq_self_eq_true, Int.reducePow, Nat.reducePow, Int.reduceDiv, Nat.reduceLeDiff, reduceCtorEq, Tryz.f155, Tryz.results155, bC120, c1, c2, c3]
        exact h
    · have n1 : c = 114 := by rw [show ((114 : UInt8).toNat : Int) = 114 from rfl, c2] at e2; exact eq_of_beq e2
      rw [if_pos n1] at h
      (refine invW_of_pw Tryz.func155 rfl rfl (by decide +kernel) (by simp [Tryz.f155]) ?_); simp -dsimp -failIfUnchanged (maxSteps := 2000000) (disch := omega) only [VA, if_true_, if_false_, reduceIte, Nat.reduceEqDiff, Nat.reduceAdd, Nat.reduceMul, Nat.reduceSub, Int.reduceToNat, Int.reduceAdd, Int.reduceNeg, Int.reduceSub, Int.reduceMul, Int.reduceBEq, Int.reduceBNe, Int.reduceLT, Int.reduceLE, Int.reduceEq, beq_self_eq_true, Int.reducePow, Nat.reducePow, Int.reduceDiv, Nat.reduceLeDiff, reduceCtorEq, Tryz.f155, Tryz.results155, bC120, c1, c2]
      exact h
  · have n1 : c = 117 := by rw [show ((117 : UInt8).toNat : Int) = 117 from rfl, c1] at e1; exact eq_of_beq e1
    rw [if_pos n1] at h
    (refine invW_of_pw Tryz.func155 rfl rfl (by decide +kernel) (by simp [Tryz.f155]) ?_); simp -dsimp -failIfUnchanged (maxSteps := 2000000) (disch := omega) only [VA, if_true_, if_false_, reduceIte, Nat.reduceEqDiff, Nat.reduceAdd, Nat.reduceMul, Nat.reduceSub, Int.reduceToNat, Int.reduceAdd, Int.reduceNeg, Int.reduceSub, Int.reduceMul, Int.reduceBEq, Int.reduceBNe, Int.reduceLT, Int.reduceLE, Int.reduceEq, beq_self_eq_true, Int.reducePow, Nat.reducePow, Int.reduceDiv, Nat.reduceLeDiff, reduceCtorEq, Tryz.f155, Tryz.results155, bC120, c1]
    exact h
theorem number_W {b : Nat} {c : UInt8} (h : K (.tuple #[(numV b c).1, .int .i64 (numV b c).2.1, .int .i64 (numV b c).2.2]) H) : InvW Tryz.prog 156 #[pf b 0, .int .u8 c.toNat] H K := by
  unfold numV at h
  have e1 := u8_beq c 115; have e2 := u8_beq c 112; have e3 := u8_beq c 99
  unfold pf at h ⊢
  cases c1 : ((c.toNat : Int) == 115)
  rotate_left
  · have n1 : c = 115 := by rw [show ((115 : UInt8).toNat : Int) = 115 from rfl, c1] at e1; exact eq_of_beq e1
    rw [if_pos n1] at h
    (refine invW_of_pw Tryz.func156 rfl rfl (by decide +kernel) (by simp [Tryz.f156]) ?_); simp -dsimp -failIfUnchanged (maxSteps := 2000000) (disch := omega) only [VA, if_true_, if_false_, reduceIte, Nat.reduceEqDiff, Nat.reduceAdd, Nat.reduceMul, Nat.reduceSub, Int.reduceToNat, Int.reduceAdd, Int.reduceNeg, Int.reduceSub, Int.reduceMul, Int.reduceBEq, Int.reduceBNe, Int.reduceLT, Int.reduceLE, Int.reduceEq, beq_self_eq_true, Int.reducePow, Nat.reducePow, Int.reduceDiv, Nat.reduceLeDiff, reduceCtorEq, Tryz.f156, Tryz.results156, bC121, c1]
    exact h
  have n1 : ¬ c = 115 := by rw [show ((115 : UInt8).toNat : Int) = 115 from rfl, c1] at e1; exact beq_eq_false_iff_ne.1 e1
  rw [if_neg n1] at h
  cases c2 : ((c.toNat : Int) == 112)
  rotate_left
  · have n1 : c = 112 := by rw [show ((112 : UInt8).toNat : Int) = 112 from rfl, c2] at e2; exact eq_of_beq e2
    rw [if_pos n1] at h
    (refine invW_of_pw Tryz.func156 rfl rfl (by decide +kernel) (by simp [Tryz.f156]) ?_); simp -dsimp -failIfUnchanged (maxSteps := 2000000) (disch := omega) only [VA, if_true_, if_false_, reduceIte, Nat.reduceEqDiff, Nat.reduceAdd, Nat.reduceMul, Nat.reduceSub, Int.reduceToNat, Int.reduceAdd, Int.reduceNeg, Int.reduceSub, Int.reduceMul, Int.reduceBEq, Int.reduceBNe, Int.reduceLT, Int.reduceLE, Int.reduceEq, beq_self_eq_true, Int.reducePow, Nat.reducePow, Int.reduceDiv, Nat.reduceLeDiff, reduceCtorEq, Tryz.f156, Tryz.results156, bC121, c1, c2]
    exact h
  have n2 : ¬ c = 112 := by rw [show ((112 : UInt8).toNat : Int) = 112 from rfl, c2] at e2; exact beq_eq_false_iff_ne.1 e2
  rw [if_neg n2] at h
  cases c3 : ((c.toNat : Int) == 99)
  rotate_left
  · have n1 : c = 99 := by rw [show ((99 : UInt8).toNat : Int) = 99 from rfl, c3] at e3; exact eq_of_beq e3
    rw [if_pos n1] at h
    (refine invW_of_pw Tryz.func156 rfl rfl (by decide +kernel) (by simp [Tryz.f156]) ?_); simp -dsimp -failIfUnchanged (maxSteps := 2000000) (disch := omega) only [VA, if_true_, if_false_, reduceIte, Nat.reduceEqDiff, Nat.reduceAdd, Nat.reduceMul, Nat.reduceSub, Int.reduceToNat, Int.reduceAdd, Int.reduceNeg, Int.reduceSub, Int.reduceMul, Int.reduceBEq, Int.reduceBNe, Int.reduceLT, Int.reduceLE, Int.reduceEq, beq_self_eq_true, Int.reducePow, Nat.reducePow, Int.reduceDiv, Nat.reduceLeDiff, reduceCtorEq, Tryz.f156, Tryz.results156, bC121, c1, c2, c3]
    exact h
  have n3 : ¬ c = 99 := by rw [show ((99 : UInt8).toNat : Int) = 99 from rfl, c3] at e3; exact beq_eq_false_iff_ne.1 e3
  rw [if_neg n3] at h
  (refine invW_of_pw Tryz.func156 rfl rfl (by decide +kernel) (by simp [Tryz.f156]) ?_); simp -dsimp -failIfUnchanged (maxSteps := 2000000) (disch := omega) only [VA, if_true_, if_false_, reduceIte, Nat.reduceEqDiff, Nat.reduceAdd, Nat.reduceMul, Nat.reduceSub, Int.reduceToNat, Int.reduceAdd, Int.reduceNeg, Int.reduceSub, Int.reduceMul, Int.reduceBEq, Int.reduceBNe, Int.reduceLT, Int.reduceLE, Int.reduceEq, beq_self_eq_true, Int.reducePow, Nat.reducePow, Int.reduceDiv, Nat.reduceLeDiff, reduceCtorEq, Tryz.f156, Tryz.results156, bC121, c1, c2, c3]
  exact h
theorem byC_len (s : List UInt8) : (byC s).length = s.length := byC_length s
theorem ite_len {c : Prop} [Decidable c] {a b : List UInt8} (ha : a.length ≤ 5) (hb : b.length ≤ 5) : (if c then a else b).length ≤ 5 := by split <;> assumption
theorem hasK_len (k : Int) : (hasK k).length ≤ 5 := by
  unfold hasK
  repeat (refine ite_len (by decide) ?_)
  decide
def isText (c : UInt8) : Bool := c == 117 || c == 114 || c == 109

theorem read_one {G : Mem} {m n i : Nat} {vs : List Value} {v : Value} (h : G.read ⟨m, 0, none⟩ n = some vs) (hi : i < n) (hv : (vs.drop i).take 1 = [v]) : G.read ⟨m, i, none⟩ 1 = some [v] := by
  obtain ⟨b, o, B, hb, hB, hle, hcs⟩ := read_parts h
  cases hb
  have hlen := read_length h
  simp only [Mem.read, hB, Option.bind_some, Blk.read]
  rw [if_pos (by omega)]
  rw [Nat.zero_add] at hle
  have : (B.cs.drop i).take 1 = (vs.drop i).take 1 := by
    rw [hcs, List.drop_zero]
    simp only [List.take_one]
    rw [List.head?_drop, List.head?_drop, List.getElem?_take, if_pos hi]
  rw [this, hv]
theorem textV_yes {b : Nat} {c : UInt8} (h : isText c = true) : ∃ o, (textV b c).1 = .pointer (some ⟨b, o, none⟩) := by
  unfold isText at h
  simp only [Bool.or_eq_true, beq_iff_eq] at h
  rcases h with (rfl | rfl) | rfl
  · exact ⟨1, rfl⟩
  · exact ⟨2, rfl⟩
  · exact ⟨3, rfl⟩
theorem textV_no {b : Nat} {c : UInt8} (h : isText c = false) : textV b c = (.pointer none, 0) := by
  unfold isText at h
  simp only [Bool.or_eq_false_iff, beq_eq_false_iff_ne] at h
  unfold textV
  rw [if_neg h.1.1, if_neg h.1.2, if_neg h.2]

theorem each_W {b tf nf : Nat} {t1 t2 n1 n2 : Array Value} {k : Int} (hk : H.read ⟨b, 0, none⟩ 1 = some [.int .u8 k])
    (start : ∀ m cap, H m = none → ∃ I : List UInt8 → Mem → Prop, I (hasK k) (H.upd m ⟨true, cap, byC (hasK k)⟩) ∧ (∀ q G, I q G → G.read ⟨m, 0, none⟩ (hasK k).length = some (byC (hasK k))) ∧
      (∀ c q G, I (c :: q) G → isText c = true → InvW Tryz.prog tf (t1 ++ #[(textV b c).1, .int .i64 (textV b c).2] ++ t2) G (fun _ G' => I q G')) ∧
      (∀ c q G, I (c :: q) G → isText c = false → InvW Tryz.prog nf (n1 ++ #[(numV b c).1, .int .i64 (numV b c).2.1, .int .i64 (numV b c).2.2] ++ n2) G (fun _ G' => I q G')) ∧
      (∀ G, I [] G → K (.tuple #[]) G)) :
    InvW Tryz.prog 99 #[pf b 0, .func (.func tf) t1 t2, .func (.func nf) n1 n2] H K := by
  unfold pf
  (refine invW_of_pw Tryz.func99 rfl rfl (by decide +kernel) (by simp [Tryz.f99]) ?_); simp -dsimp -failIfUnchanged (maxSteps := 2000000) (disch := omega) only [VA, if_true_, if_false_, reduceIte, Nat.reduceEqDiff, Nat.reduceAdd, Nat.reduceMul, Nat.reduceSub, Int.reduceToNat, Int.reduceAdd, Int.reduceNeg, Int.reduceSub, Int.reduceMul, Int.reduceBEq, Int.reduceBNe, Int.reduceLT, Int.reduceLE, Int.reduceEq, beq_self_eq_true, Int.reducePow, Nat.reducePow, Int.reduceDiv, Nat.reduceLeDiff, reduceCtorEq, Tryz.f99, Tryz.results99, bC122, hk]
  refine has_W ?_
  simp -dsimp -failIfUnchanged (maxSteps := 2000000) (disch := omega) only [VA, if_true_, if_false_, reduceIte, Nat.reduceEqDiff, Nat.reduceAdd, Nat.reduceMul, Nat.reduceSub, Int.reduceToNat, Int.reduceAdd, Int.reduceNeg, Int.reduceSub, Int.reduceMul, Int.reduceBEq, Int.reduceBNe, Int.reduceLT, Int.reduceLE, Int.reduceEq, beq_self_eq_true, Int.reducePow, Nat.reducePow, Int.reduceDiv, Nat.reduceLeDiff, reduceCtorEq, Tryz.f99, Tryz.results99, bC122]
  refine conv_bytes Tryz.underlying9 Tryz.underlying183 Tryz.underlying5 fun m cap hm hcap => ?_
  obtain ⟨I, hI0, hIr, hIt, hIn, hIe⟩ := start m cap hm
  simp -dsimp -failIfUnchanged (maxSteps := 2000000) (disch := omega) only [VA, if_true_, if_false_, reduceIte, Nat.reduceEqDiff, Nat.reduceAdd, Nat.reduceMul, Nat.reduceSub, Int.reduceToNat, Int.reduceAdd, Int.reduceNeg, Int.reduceSub, Int.reduceMul, Int.reduceBEq, Int.reduceBNe, Int.reduceLT, Int.reduceLE, Int.reduceEq, beq_self_eq_true, Int.reducePow, Nat.reducePow, Int.reduceDiv, Nat.reduceLeDiff, reduceCtorEq, Tryz.f99, Tryz.results99, bC122]
  have hlen := hasK_len k
  refine loop_enter (loop_ind ?_ (fun (i : Nat) e1 H1 => e1.ds = [] ∧ e1 0 = .pointer (some ⟨b, 0, none⟩) ∧ e1 1 = .func (.func tf) t1 t2 ∧ e1 2 = .func (.func nf) n1 n2 ∧ e1 15 = .slice (some ⟨m, 0, none⟩) (hasK k).length cap ∧ e1 16 = .int .i64 (hasK k).length ∧ e1 17 = .int .i64 i ∧ i ≤ (hasK k).length ∧ I ((hasK k).drop i) H1) (fun i => (hasK k).length - i) ?_ 0 _ _ ?_)
  · decide +kernel
  · rintro i e1 H1 ⟨d0, d1, d2, d3, d4, d5, d6, hi, hI⟩ ih
    by_cases hlt : i < (hasK k).length
    · have k1 : decide ((i : Int) < (hasK k).length) = true := decide_eq_true (by omega)
      obtain ⟨x, q, hx⟩ : ∃ x q, (hasK k).drop i = x :: q := by
        cases hd : (hasK k).drop i with
        | nil => have := congrArg List.length hd; simp at this; omega
        | cons x q => exact ⟨x, q, rfl⟩
      have hrd : H1.read ⟨m, (i : Int).toNat * 1, none⟩ 1 = some [.int .u8 x.toNat] := by
        rw [Int.toNat_natCast, Nat.mul_one]
        exact read_one (hIr _ _ hI) hlt (byC_at hx)
      rw [hx] at hI
      have hdr : (hasK k).drop (i + 1) = q := by rw [← List.drop_drop, hx, List.drop_one, List.tail_cons]
      simp -dsimp -failIfUnchanged (maxSteps := 2000000) (disch := omega) only [VA, if_true_, if_false_, reduceIte, Nat.reduceEqDiff, Nat.reduceAdd, Nat.reduceMul, Nat.reduceSub, Int.reduceToNat, Int.reduceAdd, Int.reduceNeg, Int.reduceSub, Int.reduceMul, Int.reduceBEq, Int.reduceBNe, Int.reduceLT, Int.reduceLE, Int.reduceEq, beq_self_eq_true, Int.reducePow, Nat.reducePow, Int.reduceDiv, Nat.reduceLeDiff, reduceCtorEq, Tryz.f99, Tryz.results99, bC122, d0, d1, d2, d3, d4, d5, d6, k1, hrd, Option.isNone_none, Option.isNone_some]
      refine text_W' (b := b) ?_
      cases ht : isText x
      · rw [textV_no ht]
        simp -dsimp -failIfUnchanged (maxSteps := 2000000) (disch := omega) only [VA, if_true_, if_false_, reduceIte, Nat.reduceEqDiff, Nat.reduceAdd, Nat.reduceMul, Nat.reduceSub, Int.reduceToNat, Int.reduceAdd, Int.reduceNeg, Int.reduceSub, Int.reduceMul, Int.reduceBEq, Int.reduceBNe, Int.reduceLT, Int.reduceLE, Int.reduceEq, beq_self_eq_true, Int.reducePow, Nat.reducePow, Int.reduceDiv, Nat.reduceLeDiff, reduceCtorEq, Tryz.f99, Tryz.results99, bC122, d0, d1, d2, d3, d4, d5, d6, k1, hrd, Option.isNone_none, Option.isNone_some]
        refine number_W (b := b) ?_
        simp -dsimp -failIfUnchanged (maxSteps := 2000000) (disch := omega) only [VA, if_true_, if_false_, reduceIte, Nat.reduceEqDiff, Nat.reduceAdd, Nat.reduceMul, Nat.reduceSub, Int.reduceToNat, Int.reduceAdd, Int.reduceNeg, Int.reduceSub, Int.reduceMul, Int.reduceBEq, Int.reduceBNe, Int.reduceLT, Int.reduceLE, Int.reduceEq, beq_self_eq_true, Int.reducePow, Nat.reducePow, Int.reduceDiv, Nat.reduceLeDiff, reduceCtorEq, Tryz.f99, Tryz.results99, bC122, d0, d1, d2, d3, d4, d5, d6, k1, hrd, Option.isNone_none, Option.isNone_some]
        refine (hIn x q H1 hI ht).mono fun v H2 hI2 => ?_
        simp -dsimp -failIfUnchanged (maxSteps := 2000000) (disch := omega) only [VA, if_true_, if_false_, reduceIte, Nat.reduceEqDiff, Nat.reduceAdd, Nat.reduceMul, Nat.reduceSub, Int.reduceToNat, Int.reduceAdd, Int.reduceNeg, Int.reduceSub, Int.reduceMul, Int.reduceBEq, Int.reduceBNe, Int.reduceLT, Int.reduceLE, Int.reduceEq, beq_self_eq_true, Int.reducePow, Nat.reducePow, Int.reduceDiv, Nat.reduceLeDiff, reduceCtorEq, Tryz.f99, Tryz.results99, bC122, d0, d1, d2, d3, d4, d5, d6, k1, hrd, Option.isNone_none, Option.isNone_some]
        refine ih (i + 1) _ _ ?_ (by omega)
        simp -dsimp -failIfUnchanged (maxSteps := 2000000) (disch := omega) only [VA, if_true_, if_false_, reduceIte, Nat.reduceEqDiff, Nat.reduceAdd, Nat.reduceMul, Nat.reduceSub, Int.reduceToNat, Int.reduceAdd, Int.reduceNeg, Int.reduceSub, Int.reduceMul, Int.reduceBEq, Int.reduceBNe, Int.reduceLT, Int.reduceLE, Int.reduceEq, beq_self_eq_true, Int.reducePow, Nat.reducePow, Int.reduceDiv, Nat.reduceLeDiff, reduceCtorEq, Tryz.f99, Tryz.results99, bC122, d0, d1, d2, d3, d4, d5, d6, hdr]
        exact ⟨trivial, trivial, trivial, trivial, trivial, trivial, by simp, by omega, hI2⟩
      · obtain ⟨o, ho⟩ := textV_yes (b := b) ht
        have hT := hIt x q H1 hI ht
        rw [ho] at hT ⊢
        simp -dsimp -failIfUnchanged (maxSteps := 2000000) (disch := omega) only [VA, if_true_, if_false_, reduceIte, Nat.reduceEqDiff, Nat.reduceAdd, Nat.reduceMul, Nat.reduceSub, Int.reduceToNat, Int.reduceAdd, Int.reduceNeg, Int.reduceSub, Int.reduceMul, Int.reduceBEq, Int.reduceBNe, Int.reduceLT, Int.reduceLE, Int.reduceEq, beq_self_eq_true, Int.reducePow, Nat.reducePow, Int.reduceDiv, Nat.reduceLeDiff, reduceCtorEq, Tryz.f99, Tryz.results99, bC122, d0, d1, d2, d3, d4, d5, d6, k1, hrd, Option.isNone_none, Option.isNone_some]
        refine hT.mono fun v H2 hI2 => ?_
        simp -dsimp -failIfUnchanged (maxSteps := 2000000) (disch := omega) only [VA, if_true_, if_false_, reduceIte, Nat.reduceEqDiff, Nat.reduceAdd, Nat.reduceMul, Nat.reduceSub, Int.reduceToNat, Int.reduceAdd, Int.reduceNeg, Int.reduceSub, Int.reduceMul, Int.reduceBEq, Int.reduceBNe, Int.reduceLT, Int.reduceLE, Int.reduceEq, beq_self_eq_true, Int.reducePow, Nat.reducePow, Int.reduceDiv, Nat.reduceLeDiff, reduceCtorEq, Tryz.f99, Tryz.results99, bC122, d0, d1, d2, d3, d4, d5, d6, k1, hrd, Option.isNone_none, Option.isNone_some]
        refine ih (i + 1) _ _ ?_ (by omega)
        simp -dsimp -failIfUnchanged (maxSteps := 2000000) (disch := omega) only [VA, if_true_, if_false_, reduceIte, Nat.reduceEqDiff, Nat.reduceAdd, Nat.reduceMul, Nat.reduceSub, Int.reduceToNat, Int.reduceAdd, Int.reduceNeg, Int.reduceSub, Int.reduceMul, Int.reduceBEq, Int.reduceBNe, Int.reduceLT, Int.reduceLE, Int.reduceEq, beq_self_eq_true, Int.reducePow, Nat.reducePow, Int.reduceDiv, Nat.reduceLeDiff, reduceCtorEq, Tryz.f99, Tryz.results99, bC122, d0, d1, d2, d3, d4, d5, d6, hdr]
        exact ⟨trivial, trivial, trivial, trivial, trivial, trivial, by simp, by omega, hI2⟩
    · have k1 : decide ((i : Int) < (hasK k).length) = false := decide_eq_false (by omega)
      obtain rfl : i = (hasK k).length := by omega
      rw [List.drop_length] at hI
      simp -dsimp -failIfUnchanged (maxSteps := 2000000) (disch := omega) only [VA, if_true_, if_false_, reduceIte, Nat.reduceEqDiff, Nat.reduceAdd, Nat.reduceMul, Nat.reduceSub, Int.reduceToNat, Int.reduceAdd, Int.reduceNeg, Int.reduceSub, Int.reduceMul, Int.reduceBEq, Int.reduceBNe, Int.reduceLT, Int.reduceLE, Int.reduceEq, beq_self_eq_true, Int.reducePow, Nat.reducePow, Int.reduceDiv, Nat.reduceLeDiff, reduceCtorEq, Tryz.f99, Tryz.results99, bC122, d0, d1, d2, d3, d4, d5, d6, k1]
      exact hIe _ hI
  · simp -dsimp -failIfUnchanged (maxSteps := 2000000) (disch := omega) only [VA, if_true_, if_false_, reduceIte, Nat.reduceEqDiff, Nat.reduceAdd, Nat.reduceMul, Nat.reduceSub, Int.reduceToNat, Int.reduceAdd, Int.reduceNeg, Int.reduceSub, Int.reduceMul, Int.reduceBEq, Int.reduceBNe, Int.reduceLT, Int.reduceLE, Int.reduceEq, beq_self_eq_true, Int.reducePow, Nat.reducePow, Int.reduceDiv, Nat.reduceLeDiff, reduceCtorEq, Tryz.f99, Tryz.results99, bC122]
    refine ⟨trivial, trivial, trivial, trivial, trivial, ?_, ?_, Nat.zero_le _, hI0⟩ <;> first | trivial | rfl
end Go.Proofs.YtgkolnknobgcmaaGreat
end
section
namespace Go.Proofs.YtgkolnknobgcmaaGreat
open Go Go.Proofs.YtgkolnknobgcmaaGreatV Go.Shelf
set_option maxRecDepth 20000
set_option linter.unusedSimpArgs false
set_option linter.unusedVariables false
set_option maxHeartbeats 4000000
theorem bC130 : type_of% @Tryz.underlying5 ∧ type_of% @ty5 ∧ type_of% @zero5 ∧ type_of% @Tryz.ntmps112 := ⟨@Tryz.underlying5, @ty5, @zero5, @Tryz.ntmps112⟩
theorem bC131 : type_of% @Tryz.underlying5 ∧ type_of% @ty5 ∧ type_of% @zero5 ∧ type_of% @Tryz.ntmps64 := ⟨@Tryz.underlying5, @ty5, @zero5, @Tryz.ntmps64⟩
theorem bC132 : type_of% @Tryz.underlying3 ∧ type_of% @ty3 ∧ type_of% @zero3 ∧ type_of% @Tryz.ntmps66 := ⟨@Tryz.underlying3, @ty3, @zero3, @Tryz.ntmps66⟩
theorem bC133 : type_of% @Tryz.underlying9 ∧ type_of% @ty9 ∧ type_of% @zero9 ∧ type_of% @Tryz.ntmps113 := ⟨@Tryz.underlying9, @ty9, @zero9, @Tryz.ntmps113⟩
theorem bC134 : type_of% @Tryz.underlying3 ∧ type_of% @ty3 ∧ type_of% @zero3 ∧ type_of% @Tryz.ntmps114 := ⟨@Tryz.underlying3, @ty3, @zero3, @Tryz.ntmps114⟩
theorem bC135 : type_of% @Tryz.underlying5 ∧ type_of% @ty5 ∧ type_of% @zero5 ∧ type_of% @Tryz.underlying64 ∧ type_of% @elt64 ∧ type_of% @fld64_0 ∧ type_of% @fld64_1 ∧ type_of% @fld64_2 ∧ type_of% @fld64_3 ∧ type_of% @fld64_4 ∧ type_of% @fld64_5 ∧ type_of% @fld64_6 ∧ type_of% @fld64_7 ∧ type_of% @flds64 ∧ type_of% @ty64 ∧ type_of% @zero64 ∧ type_of% @Tryz.underlying208 ∧ type_of% @ty208 ∧ type_of% @Tryz.underlying211 ∧ type_of% @ty211 ∧ type_of% @Tryz.ntmps65 := ⟨@Tryz.underlying5, @ty5, @zero5, @Tryz.underlying64, @elt64, @fld64_0, @fld64_1, @fld64_2, @fld64_3, @fld64_4, @fld64_5, @fld64_6, @fld64_7, @flds64, @ty64, @zero64, @Tryz.underlying208, @ty208, @Tryz.underlying211, @ty211, @Tryz.ntmps65⟩
variable {H : Mem} {K : Value → Mem → Prop}

structure Stz where
  k : Int
  u : List UInt8
  r : List UInt8
  n : List UInt8
  s : Int
  p : Int
  c : Int
  x : Int
deriving DecidableEq
def Stz.cells (z : Stz) : List Value := [.int .u8 z.k, .string (bs z.u), .string (bs z.r), .string (bs z.n), .int .i64 z.s, .int .i64 z.p, .int .i64 z.c, .int .i64 z.x]
def stzV (z : Stz) : Value := .agg #[.int .u8 z.k, .string (bs z.u), .string (bs z.r), .string (bs z.n), .int .i64 z.s, .int .i64 z.p, .int .i64 z.c, .int .i64 z.x]
def clr (z : Stz) (c : UInt8) : Stz :=
  if c = 117 then { z with u := [] } else if c = 114 then { z with r := [] } else if c = 109 then { z with n := [] } else if c = 115 then { z with s := 0 } else if c = 112 then { z with p := 0 } else if c = 99 then { z with c := 0 } else { z with x := 0 }
def clrs (z : Stz) (l : List UInt8) : Stz := l.foldl clr z
def bareB (z : Stz) : Bool := decide (clrs z (hasK z.k) = ⟨z.k, [], [], [], 0, 0, 0, 0⟩)
def knownB (k : Int) : Bool := decide (1 ≤ k) && decide (k ≤ 15) || decide (32 ≤ k) && decide (k ≤ 41)
theorem asks_W {k : Int} (h : K (.bool (decide (1 ≤ k) && decide (k ≤ 15))) H) : InvW Tryz.prog 112 #[.int .u8 k] H K := by
  cases c1 : decide (1 ≤ k) <;> cases c2 : decide (k ≤ 15) <;> rw [c1, c2] at h <;> ((refine invW_of_pw Tryz.func112 rfl rfl (by decide +kernel) (by simp [Tryz.f112]) ?_); simp -dsimp -failIfUnchanged (maxSteps := 2000000) (disch := omega) only [VA, if_true_, if_false_, reduceIte, Nat.reduceEqDiff, Nat.reduceAdd, Nat.reduceMul, Nat.reduceSub, Int.reduceToNat, Int.reduceAdd, Int.reduceNeg, Int.reduceSub, Int.reduceMul, Int.reduceBEq, Int.reduceBNe, Int.reduceLT, Int.reduceLE, Int.reduceEq, beq_self_eq_true, Int.reducePow, Nat.reducePow, Int.reduceDiv, Nat.reduceLeDiff, reduceCtorEq, Tryz.f112, Tryz.results112, bC130, c1, c2]; exact h)
theorem known_W {k : Int} (h : K (.bool (knownB k)) H) : InvW Tryz.prog 64 #[.int .u8 k] H K := by
  unfold knownB at h
  (refine invW_of_pw Tryz.func64 rfl rfl (by decide +kernel) (by simp [Tryz.f64]) ?_); simp -dsimp -failIfUnchanged (maxSteps := 2000000) (disch := omega) only [VA, if_true_, if_false_, reduceIte, Nat.reduceEqDiff, Nat.reduceAdd, Nat.reduceMul, Nat.reduceSub, Int.reduceToNat, Int.reduceAdd, Int.reduceNeg, Int.reduceSub, Int.reduceMul, Int.reduceBEq, Int.reduceBNe, Int.reduceLT, Int.reduceLE, Int.reduceEq, beq_self_eq_true, Int.reducePow, Nat.reducePow, Int.reduceDiv, Nat.reduceLeDiff, reduceCtorEq, Tryz.f64, Tryz.results64, bC131]
  refine asks_W ?_
  cases c0 : (decide (1 ≤ k) && decide (k ≤ 15)) <;> cases c1 : decide (32 ≤ k) <;> cases c2 : decide (k ≤ 41) <;> rw [c0, c1, c2] at h <;> (simp -dsimp -failIfUnchanged (maxSteps := 2000000) (disch := omega) only [VA, if_true_, if_false_, reduceIte, Nat.reduceEqDiff, Nat.reduceAdd, Nat.reduceMul, Nat.reduceSub, Int.reduceToNat, Int.reduceAdd, Int.reduceNeg, Int.reduceSub, Int.reduceMul, Int.reduceBEq, Int.reduceBNe, Int.reduceLT, Int.reduceLE, Int.reduceEq, beq_self_eq_true, Int.reducePow, Nat.reducePow, Int.reduceDiv, Nat.reduceLeDiff, reduceCtorEq, Tryz.f64, Tryz.results64, bC131, c1, c2]; exact h)
theorem in_W {n a b : Int} (h : K (.bool (decide (a ≤ n) && decide (n ≤ b))) H) : InvW Tryz.prog 66 #[.int .i64 n, .int .i64 a, .int .i64 b] H K := by
  cases c1 : decide (a ≤ n) <;> cases c2 : decide (n ≤ b) <;> rw [c1, c2] at h <;> ((refine invW_of_pw Tryz.func66 rfl rfl (by decide +kernel) (by simp [Tryz.f66]) ?_); simp -dsimp -failIfUnchanged (maxSteps := 2000000) (disch := omega) only [VA, if_true_, if_false_, reduceIte, Nat.reduceEqDiff, Nat.reduceAdd, Nat.reduceMul, Nat.reduceSub, Int.reduceToNat, Int.reduceAdd, Int.reduceNeg, Int.reduceSub, Int.reduceMul, Int.reduceBEq, Int.reduceBNe, Int.reduceLT, Int.reduceLE, Int.reduceEq, beq_self_eq_true, Int.reducePow, Nat.reducePow, Int.reduceDiv, Nat.reduceLeDiff, reduceCtorEq, Tryz.f66, Tryz.results66, bC132, c1, c2]; exact h)
theorem bare_W1 {b : Nat} {o : Nat} {n : Int} {B : Blk} {m : Nat} {cs : List Value} (hb : b ≠ m) (ho : o < cs.length) (h8 : cs.length = 8) (h : K (.tuple #[]) ((H.upd b ⟨true, 8, cs.set o (.string (bs []))⟩).upd m B)) :
    InvW Tryz.prog 113 #[pf b o, .int .i64 n] ((H.upd b ⟨true, 8, cs⟩).upd m B) K := by
  unfold pf
  (refine invW_of_pw Tryz.func113 rfl rfl (by decide +kernel) (by simp [Tryz.f113]) ?_); simp -dsimp -failIfUnchanged (maxSteps := 2000000) (disch := omega) only [VA, if_true_, if_false_, reduceIte, Nat.reduceEqDiff, Nat.reduceAdd, Nat.reduceMul, Nat.reduceSub, Int.reduceToNat, Int.reduceAdd, Int.reduceNeg, Int.reduceSub, Int.reduceMul, Int.reduceBEq, Int.reduceBNe, Int.reduceLT, Int.reduceLE, Int.reduceEq, beq_self_eq_true, Int.reducePow, Nat.reducePow, Int.reduceDiv, Nat.reduceLeDiff, reduceCtorEq, Tryz.f113, Tryz.results113, bC133]
  rw [List.set_eq_take_append_cons_drop, if_pos ho] at h
  rw [List.append_assoc]
  exact h
theorem bare_W2 {b : Nat} {o : Nat} {n n' : Int} {B : Blk} {m : Nat} {cs : List Value} (hb : b ≠ m) (ho : o < cs.length) (h8 : cs.length = 8) (h : K (.tuple #[]) ((H.upd b ⟨true, 8, cs.set o (.int .i64 0)⟩).upd m B)) :
    InvW Tryz.prog 114 #[pf b o, .int .i64 n, .int .i64 n'] ((H.upd b ⟨true, 8, cs⟩).upd m B) K := by
  unfold pf
  (refine invW_of_pw Tryz.func114 rfl rfl (by decide +kernel) (by simp [Tryz.f114]) ?_); simp -dsimp -failIfUnchanged (maxSteps := 2000000) (disch := omega) only [VA, if_true_, if_false_, reduceIte, Nat.reduceEqDiff, Nat.reduceAdd, Nat.reduceMul, Nat.reduceSub, Int.reduceToNat, Int.reduceAdd, Int.reduceNeg, Int.reduceSub, Int.reduceMul, Int.reduceBEq, Int.reduceBNe, Int.reduceLT, Int.reduceLE, Int.reduceEq, beq_self_eq_true, Int.reducePow, Nat.reducePow, Int.reduceDiv, Nat.reduceLeDiff, reduceCtorEq, Tryz.f114, Tryz.results114, bC134]
  rw [List.set_eq_take_append_cons_drop, if_pos ho] at h
  rw [List.append_assoc]
  exact h
theorem stz_flat (y z : Stz) : FlatEq Tryz.prog #[.int .u8 y.k, .string (bs y.u), .string (bs y.r), .string (bs y.n), .int .i64 y.s, .int .i64 y.p, .int .i64 y.c, .int .i64 y.x] #[.int .u8 z.k, .string (bs z.u), .string (bs z.r), .string (bs z.n), .int .i64 z.s, .int .i64 z.p, .int .i64 z.c, .int .i64 z.x]
    ((Tryz.prog.fieldsOf 64).toList) (decide (y = z)) := by
  have hu := Tryz.underlying64
  simp only [Program.fieldsOf, hu]
  have he : decide (y = z) = (y.k == z.k && (decide (bs y.u = bs z.u) && (decide (bs y.r = bs z.r) && (decide (bs y.n = bs z.n) && (y.s == z.s && (y.p == z.p && (y.c == z.c && (y.x == z.x && true)))))))) := by
    obtain ⟨a1, a2, a3, a4, a5, a6, a7, a8⟩ := y
    obtain ⟨b1, b2, b3, b4, b5, b6, b7, b8⟩ := z
    rw [Bool.eq_iff_iff]
    simp only [decide_eq_true_eq, Stz.mk.injEq, bs_eq, Bool.and_eq_true, beq_iff_eq, and_true]
  rw [he]
  exact ⟨rfl, _, _, _, _, ty5, rfl, rfl, (by rw [Tryz.underlying5]; rfl), ⟨rfl, _, _, _, _, ty9, rfl, rfl, (by rw [Tryz.underlying9]; rfl), ⟨rfl, _, _, _, _, ty9, rfl, rfl, (by rw [Tryz.underlying9]; rfl), ⟨rfl, _, _, _, _, ty9, rfl, rfl, (by rw [Tryz.underlying9]; rfl), ⟨rfl, _, _, _, _, ty3, rfl, rfl, (by rw [Tryz.underlying3]; rfl), ⟨rfl, _, _, _, _, ty3, rfl, rfl, (by rw [Tryz.underlying3]; rfl), ⟨rfl, _, _, _, _, ty3, rfl, rfl, (by rw [Tryz.underlying3]; rfl), ⟨rfl, _, _, _, _, ty3, rfl, rfl, (by rw [Tryz.underlying3]; rfl), rfl, rfl⟩, rfl⟩, rfl⟩, rfl⟩, rfl⟩, rfl⟩, rfl⟩, rfl⟩
theorem bareS_W {z : Stz} (h : K (.bool (bareB z)) H) : InvW Tryz.prog 65 #[stzV z] H K := by
  refine InvW.weak ?_
  unfold stzV
  (refine invW_of_pw Tryz.func65 rfl rfl (by decide +kernel) (by simp [Tryz.f65]) ?_); simp -dsimp -failIfUnchanged (maxSteps := 2000000) (disch := omega) only [VA, if_true_, if_false_, reduceIte, Nat.reduceEqDiff, Nat.reduceAdd, Nat.reduceMul, Nat.reduceSub, Int.reduceToNat, Int.reduceAdd, Int.reduceNeg, Int.reduceSub, Int.reduceMul, Int.reduceBEq, Int.reduceBNe, Int.reduceLT, Int.reduceLE, Int.reduceEq, beq_self_eq_true, Int.reducePow, Nat.reducePow, Int.reduceDiv, Nat.reduceLeDiff, reduceCtorEq, Tryz.f65, Tryz.results65, bC135]
  intro b hb
  simp -dsimp -failIfUnchanged (maxSteps := 2000000) (disch := omega) only [VA, if_true_, if_false_, reduceIte, Nat.reduceEqDiff, Nat.reduceAdd, Nat.reduceMul, Nat.reduceSub, Int.reduceToNat, Int.reduceAdd, Int.reduceNeg, Int.reduceSub, Int.reduceMul, Int.reduceBEq, Int.reduceBNe, Int.reduceLT, Int.reduceLE, Int.reduceEq, beq_self_eq_true, Int.reducePow, Nat.reducePow, Int.reduceDiv, Nat.reduceLeDiff, reduceCtorEq, Tryz.f65, Tryz.results65, bC135]
  refine each_W (k := z.k) (by simp -dsimp -failIfUnchanged (maxSteps := 2000000) (disch := omega) only [VA, if_true_, if_false_, reduceIte, Nat.reduceEqDiff, Nat.reduceAdd, Nat.reduceMul, Nat.reduceSub, Int.reduceToNat, Int.reduceAdd, Int.reduceNeg, Int.reduceSub, Int.reduceMul, Int.reduceBEq, Int.reduceBNe, Int.reduceLT, Int.reduceLE, Int.reduceEq, beq_self_eq_true, Int.reducePow, Nat.reducePow, Int.reduceDiv, Nat.reduceLeDiff, reduceCtorEq, Tryz.f65, Tryz.results65, bC135]) fun m cap hm => ?_
  have hne : b ≠ m := by rintro rfl; simp [Mem.upd] at hm
  have hm' : ∀ x, (H.upd b x) m = none := fun x => by simpa [Mem.upd, Ne.symm hne] using hm
  refine ⟨fun q G => ∃ z' : Stz, G = (H.upd b ⟨true, 8, z'.cells⟩).upd m ⟨true, cap, byC (hasK z.k)⟩ ∧ z'.k = z.k ∧ clrs z' q = clrs z (hasK z.k), ⟨z, rfl, rfl, rfl⟩, ?_, ?_, ?_, ?_⟩
  · rintro q G ⟨z', rfl, _, _⟩
    have hl := byC_length (hasK z.k)
    simp -dsimp -failIfUnchanged (maxSteps := 2000000) (disch := omega) only [VA, if_true_, if_false_, reduceIte, Nat.reduceEqDiff, Nat.reduceAdd, Nat.reduceMul, Nat.reduceSub, Int.reduceToNat, Int.reduceAdd, Int.reduceNeg, Int.reduceSub, Int.reduceMul, Int.reduceBEq, Int.reduceBNe, Int.reduceLT, Int.reduceLE, Int.reduceEq, beq_self_eq_true, Int.reducePow, Nat.reducePow, Int.reduceDiv, Nat.reduceLeDiff, reduceCtorEq, Tryz.f65, Tryz.results65, bC135]
    rw [List.take_of_length_le (by omega)]
  · rintro c q G ⟨z', rfl, hk', hz'⟩ ht
    unfold isText at ht
    simp only [Bool.or_eq_true, beq_iff_eq] at ht
    rcases ht with (rfl | rfl) | rfl
    · exact bare_W1 hne (by show _ < 8; decide) rfl ⟨{ z' with u := [] }, rfl, hk', hz'⟩
    · exact bare_W1 hne (by show _ < 8; decide) rfl ⟨{ z' with r := [] }, rfl, hk', hz'⟩
    · exact bare_W1 hne (by show _ < 8; decide) rfl ⟨{ z' with n := [] }, rfl, hk', hz'⟩
  · rintro c q G ⟨z', rfl, hk', hz'⟩ ht
    unfold isText at ht
    simp only [Bool.or_eq_false_iff, beq_eq_false_iff_ne] at ht
    unfold numV
    have hc : clr z' c = if c = 115 then { z' with s := 0 } else if c = 112 then { z' with p := 0 } else if c = 99 then { z' with c := 0 } else { z' with x := 0 } := by
      unfold clr; rw [if_neg ht.1.1, if_neg ht.1.2, if_neg ht.2]
    have hz2 : clrs (clr z' c) q = clrs z (hasK z.k) := hz'
    rw [hc] at hz2
    split
    · rename_i h1; rw [if_pos h1] at hz2; exact bare_W2 hne (by show _ < 8; decide) rfl ⟨{ z' with s := 0 }, rfl, hk', hz2⟩
    · rename_i h1; rw [if_neg h1] at hz2
      split
      · rename_i h1; rw [if_pos h1] at hz2; exact bare_W2 hne (by show _ < 8; decide) rfl ⟨{ z' with p := 0 }, rfl, hk', hz2⟩
      · rename_i h1; rw [if_neg h1] at hz2
        split
        · rename_i h1; rw [if_pos h1] at hz2; exact bare_W2 hne (by show _ < 8; decide) rfl ⟨{ z' with c := 0 }, rfl, hk', hz2⟩
        · rename_i h1; rw [if_neg h1] at hz2; exact bare_W2 hne (by show _ < 8; decide) rfl ⟨{ z' with x := 0 }, rfl, hk', hz2⟩
  · rintro G ⟨z', rfl, hk', hz'⟩
    have hz2 : z' = clrs z (hasK z.k) := hz'
    unfold Stz.cells
    simp -dsimp -failIfUnchanged (maxSteps := 2000000) (disch := omega) only [VA, if_true_, if_false_, reduceIte, Nat.reduceEqDiff, Nat.reduceAdd, Nat.reduceMul, Nat.reduceSub, Int.reduceToNat, Int.reduceAdd, Int.reduceNeg, Int.reduceSub, Int.reduceMul, Int.reduceBEq, Int.reduceBNe, Int.reduceLT, Int.reduceLE, Int.reduceEq, beq_self_eq_true, Int.reducePow, Nat.reducePow, Int.reduceDiv, Nat.reduceLeDiff, reduceCtorEq, Tryz.f65, Tryz.results65, bC135]
    refine semW_eqS (by simp -dsimp -failIfUnchanged (maxSteps := 2000000) (disch := omega) only [VA, if_true_, if_false_, reduceIte, Nat.reduceEqDiff, Nat.reduceAdd, Nat.reduceMul, Nat.reduceSub, Int.reduceToNat, Int.reduceAdd, Int.reduceNeg, Int.reduceSub, Int.reduceMul, Int.reduceBEq, Int.reduceBNe, Int.reduceLT, Int.reduceLE, Int.reduceEq, beq_self_eq_true, Int.reducePow, Nat.reducePow, Int.reduceDiv, Nat.reduceLeDiff, reduceCtorEq, Tryz.f65, Tryz.results65, bC135]) (by simp -dsimp -failIfUnchanged (maxSteps := 2000000) (disch := omega) only [VA, if_true_, if_false_, reduceIte, Nat.reduceEqDiff, Nat.reduceAdd, Nat.reduceMul, Nat.reduceSub, Int.reduceToNat, Int.reduceAdd, Int.reduceNeg, Int.reduceSub, Int.reduceMul, Int.reduceBEq, Int.reduceBNe, Int.reduceLT, Int.reduceLE, Int.reduceEq, beq_self_eq_true, Int.reducePow, Nat.reducePow, Int.reduceDiv, Nat.reduceLeDiff, reduceCtorEq, Tryz.f65, Tryz.results65, bC135]) Tryz.underlying64 Tryz.stoodInHeld64 Tryz.eqGuardType64 (stz_flat z' ⟨z'.k, [], [], [], 0, 0, 0, 0⟩) ?_
    simp -dsimp -failIfUnchanged (maxSteps := 2000000) (disch := omega) only [VA, if_true_, if_false_, reduceIte, Nat.reduceEqDiff, Nat.reduceAdd, Nat.reduceMul, Nat.reduceSub, Int.reduceToNat, Int.reduceAdd, Int.reduceNeg, Int.reduceSub, Int.reduceMul, Int.reduceBEq, Int.reduceBNe, Int.reduceLT, Int.reduceLE, Int.reduceEq, beq_self_eq_true, Int.reducePow, Nat.reducePow, Int.reduceDiv, Nat.reduceLeDiff, reduceCtorEq, Tryz.f65, Tryz.results65, bC135]
    refine ⟨H, Mem.le_upd' (Mem.le_upd hb _) (hm' _) _, ?_⟩
    rw [hk', hz2]; exact h
end Go.Proofs.YtgkolnknobgcmaaGreat
end
section
namespace Go.Proofs.YtgkolnknobgcmaaGreat
open Go Go.Proofs.YtgkolnknobgcmaaGreatV Go.Shelf
set_option maxRecDepth 20000
set_option linter.unusedSimpArgs false
set_option linter.unusedVariables false
set_option maxHeartbeats 4000000
theorem bC140 : type_of% @Tryz.underlying3 ∧ type_of% @ty3 ∧ type_of% @zero3 ∧ type_of% @Tryz.underlying5 ∧ type_of% @ty5 ∧ type_of% @zero5 ∧ type_of% @Tryz.underlying9 ∧ type_of% @ty9 ∧ type_of% @zero9 ∧ type_of% @Tryz.underlying64 ∧ type_of% @elt64 ∧ type_of% @fld64_0 ∧ type_of% @fld64_1 ∧ type_of% @fld64_2 ∧ type_of% @fld64_3 ∧ type_of% @fld64_4 ∧ type_of% @fld64_5 ∧ type_of% @fld64_6 ∧ type_of% @fld64_7 ∧ type_of% @flds64 ∧ type_of% @ty64 ∧ type_of% @zero64 ∧ type_of% @Tryz.ntmps26 := ⟨@Tryz.underlying3, @ty3, @zero3, @Tryz.underlying5, @ty5, @zero5, @Tryz.underlying9, @ty9, @zero9, @Tryz.underlying64, @elt64, @fld64_0, @fld64_1, @fld64_2, @fld64_3, @fld64_4, @fld64_5, @fld64_6, @fld64_7, @flds64, @ty64, @zero64, @Tryz.ntmps26⟩
variable {H : Mem} {K : Value → Mem → Prop}

def inB (n a b : Int) : Bool := decide (a ≤ n) && decide (n ≤ b)
def startsU (l : List UInt8) : Bool := match l with | c :: _ => c == 117 | [] => false
def errS (z : Stz) : Int :=
  if knownB z.k = false then 12 else if bareB z = false then 4
  else if (inB z.s 0 63 && inB z.p (-128) 127 && inB z.c 0 255 && inB z.x 0 281474976710655) = false then 8
  else if 24 < z.n.length then 5
  else if plain z.n = false then 11
  else if startsU (hasK z.k) = true ∧ isBare z.u = false then 11
  else resE z.r
def Stz.small (z : Stz) : Prop := z.u.length < 4294967281 ∧ z.r.length < 4294967281 ∧ z.n.length < 4294967281
theorem checkS_W {z : Stz} (hB : Base H) (hs : z.small) (h : K (.int .i64 (errS z)) H) : InvW Tryz.prog 26 #[stzV z] H K := by
  refine InvW.weak ?_
  obtain ⟨hs1, hs2, hs3⟩ := hs
  unfold errS at h
  (refine invW_of_pw Tryz.func26 rfl rfl (by decide +kernel) (by simp [Tryz.f26]) ?_); simp -dsimp -failIfUnchanged (maxSteps := 2000000) (disch := omega) only [VA, if_true_, if_false_, reduceIte, Nat.reduceEqDiff, Nat.reduceAdd, Nat.reduceMul, Nat.reduceSub, Int.reduceToNat, Int.reduceAdd, Int.reduceNeg, Int.reduceSub, Int.reduceMul, Int.reduceBEq, Int.reduceBNe, Int.reduceLT, Int.reduceLE, Int.reduceEq, beq_self_eq_true, Int.reducePow, Nat.reducePow, Int.reduceDiv, Nat.reduceLeDiff, reduceCtorEq, Tryz.f26, Tryz.results26, bC140, stzV]
  intro b hb
  have hH : ∀ x, H.le (H.upd b x) := fun x => Mem.le_upd hb _
  simp -dsimp -failIfUnchanged (maxSteps := 2000000) (disch := omega) only [VA, if_true_, if_false_, reduceIte, Nat.reduceEqDiff, Nat.reduceAdd, Nat.reduceMul, Nat.reduceSub, Int.reduceToNat, Int.reduceAdd, Int.reduceNeg, Int.reduceSub, Int.reduceMul, Int.reduceBEq, Int.reduceBNe, Int.reduceLT, Int.reduceLE, Int.reduceEq, beq_self_eq_true, Int.reducePow, Nat.reducePow, Int.reduceDiv, Nat.reduceLeDiff, reduceCtorEq, Tryz.f26, Tryz.results26, bC140]
  refine has_W ?_
  simp -dsimp -failIfUnchanged (maxSteps := 2000000) (disch := omega) only [VA, if_true_, if_false_, reduceIte, Nat.reduceEqDiff, Nat.reduceAdd, Nat.reduceMul, Nat.reduceSub, Int.reduceToNat, Int.reduceAdd, Int.reduceNeg, Int.reduceSub, Int.reduceMul, Int.reduceBEq, Int.reduceBNe, Int.reduceLT, Int.reduceLE, Int.reduceEq, beq_self_eq_true, Int.reducePow, Nat.reducePow, Int.reduceDiv, Nat.reduceLeDiff, reduceCtorEq, Tryz.f26, Tryz.results26, bC140]
  refine known_W ?_
  cases k1 : knownB z.k
  · simp -dsimp -failIfUnchanged (maxSteps := 2000000) (disch := omega) only [VA, if_true_, if_false_, reduceIte, Nat.reduceEqDiff, Nat.reduceAdd, Nat.reduceMul, Nat.reduceSub, Int.reduceToNat, Int.reduceAdd, Int.reduceNeg, Int.reduceSub, Int.reduceMul, Int.reduceBEq, Int.reduceBNe, Int.reduceLT, Int.reduceLE, Int.reduceEq, beq_self_eq_true, Int.reducePow, Nat.reducePow, Int.reduceDiv, Nat.reduceLeDiff, reduceCtorEq, Tryz.f26, Tryz.results26, bC140]
    rw [if_pos k1] at h
    exact ⟨H, hH _, h⟩
  rw [if_neg (by rw [k1]; simp)] at h
  simp -dsimp -failIfUnchanged (maxSteps := 2000000) (disch := omega) only [VA, if_true_, if_false_, reduceIte, Nat.reduceEqDiff, Nat.reduceAdd, Nat.reduceMul, Nat.reduceSub, Int.reduceToNat, Int.reduceAdd, Int.reduceNeg, Int.reduceSub, Int.reduceMul, Int.reduceBEq, Int.reduceBNe, Int.reduceLT, Int.reduceLE, Int.reduceEq, beq_self_eq_true, Int.reducePow, Nat.reducePow, Int.reduceDiv, Nat.reduceLeDiff, reduceCtorEq, Tryz.f26, Tryz.results26, bC140]
  refine bareS_W (z := z) ?_
  cases k2 : bareB z
  · simp -dsimp -failIfUnchanged (maxSteps := 2000000) (disch := omega) only [VA, if_true_, if_false_, reduceIte, Nat.reduceEqDiff, Nat.reduceAdd, Nat.reduceMul, Nat.reduceSub, Int.reduceToNat, Int.reduceAdd, Int.reduceNeg, Int.reduceSub, Int.reduceMul, Int.reduceBEq, Int.reduceBNe, Int.reduceLT, Int.reduceLE, Int.reduceEq, beq_self_eq_true, Int.reducePow, Nat.reducePow, Int.reduceDiv, Nat.reduceLeDiff, reduceCtorEq, Tryz.f26, Tryz.results26, bC140]
    rw [if_pos k2] at h
    exact ⟨H, hH _, h⟩
  rw [if_neg (by rw [k2]; simp)] at h
  simp -dsimp -failIfUnchanged (maxSteps := 2000000) (disch := omega) only [VA, if_true_, if_false_, reduceIte, Nat.reduceEqDiff, Nat.reduceAdd, Nat.reduceMul, Nat.reduceSub, Int.reduceToNat, Int.reduceAdd, Int.reduceNeg, Int.reduceSub, Int.reduceMul, Int.reduceBEq, Int.reduceBNe, Int.reduceLT, Int.reduceLE, Int.reduceEq, beq_self_eq_true, Int.reducePow, Nat.reducePow, Int.reduceDiv, Nat.reduceLeDiff, reduceCtorEq, Tryz.f26, Tryz.results26, bC140]
  refine in_W ?_
  cases k3 : (decide (0 ≤ z.s) && decide (z.s ≤ 63))
  · simp -dsimp -failIfUnchanged (maxSteps := 2000000) (disch := omega) only [VA, if_true_, if_false_, reduceIte, Nat.reduceEqDiff, Nat.reduceAdd, Nat.reduceMul, Nat.reduceSub, Int.reduceToNat, Int.reduceAdd, Int.reduceNeg, Int.reduceSub, Int.reduceMul, Int.reduceBEq, Int.reduceBNe, Int.reduceLT, Int.reduceLE, Int.reduceEq, beq_self_eq_true, Int.reducePow, Nat.reducePow, Int.reduceDiv, Nat.reduceLeDiff, reduceCtorEq, Tryz.f26, Tryz.results26, bC140]
    rw [if_pos (by simp only [inB, k3, Bool.false_and, Bool.and_false])] at h
    exact ⟨H, hH _, h⟩
  simp -dsimp -failIfUnchanged (maxSteps := 2000000) (disch := omega) only [VA, if_true_, if_false_, reduceIte, Nat.reduceEqDiff, Nat.reduceAdd, Nat.reduceMul, Nat.reduceSub, Int.reduceToNat, Int.reduceAdd, Int.reduceNeg, Int.reduceSub, Int.reduceMul, Int.reduceBEq, Int.reduceBNe, Int.reduceLT, Int.reduceLE, Int.reduceEq, beq_self_eq_true, Int.reducePow, Nat.reducePow, Int.reduceDiv, Nat.reduceLeDiff, reduceCtorEq, Tryz.f26, Tryz.results26, bC140]
  refine in_W ?_
  cases k4 : (decide ((-128) ≤ z.p) && decide (z.p ≤ 127))
  · simp -dsimp -failIfUnchanged (maxSteps := 2000000) (disch := omega) only [VA, if_true_, if_false_, reduceIte, Nat.reduceEqDiff, Nat.reduceAdd, Nat.reduceMul, Nat.reduceSub, Int.reduceToNat, Int.reduceAdd, Int.reduceNeg, Int.reduceSub, Int.reduceMul, Int.reduceBEq, Int.reduceBNe, Int.reduceLT, Int.reduceLE, Int.reduceEq, beq_self_eq_true, Int.reducePow, Nat.reducePow, Int.reduceDiv, Nat.reduceLeDiff, reduceCtorEq, Tryz.f26, Tryz.results26, bC140]
    rw [if_pos (by simp only [inB, k4, Bool.false_and, Bool.and_false])] at h
    exact ⟨H, hH _, h⟩
  simp -dsimp -failIfUnchanged (maxSteps := 2000000) (disch := omega) only [VA, if_true_, if_false_, reduceIte, Nat.reduceEqDiff, Nat.reduceAdd, Nat.reduceMul, Nat.reduceSub, Int.reduceToNat, Int.reduceAdd, Int.reduceNeg, Int.reduceSub, Int.reduceMul, Int.reduceBEq, Int.reduceBNe, Int.reduceLT, Int.reduceLE, Int.reduceEq, beq_self_eq_true, Int.reducePow, Nat.reducePow, Int.reduceDiv, Nat.reduceLeDiff, reduceCtorEq, Tryz.f26, Tryz.results26, bC140]
  refine in_W ?_
  cases k5 : (decide (0 ≤ z.c) && decide (z.c ≤ 255))
  · simp -dsimp -failIfUnchanged (maxSteps := 2000000) (disch := omega) only [VA, if_true_, if_false_, reduceIte, Nat.reduceEqDiff, Nat.reduceAdd, Nat.reduceMul, Nat.reduceSub, Int.reduceToNat, Int.reduceAdd, Int.reduceNeg, Int.reduceSub, Int.reduceMul, Int.reduceBEq, Int.reduceBNe, Int.reduceLT, Int.reduceLE, Int.reduceEq, beq_self_eq_true, Int.reducePow, Nat.reducePow, Int.reduceDiv, Nat.reduceLeDiff, reduceCtorEq, Tryz.f26, Tryz.results26, bC140]
    rw [if_pos (by simp only [inB, k5, Bool.false_and, Bool.and_false])] at h
    exact ⟨H, hH _, h⟩
  simp -dsimp -failIfUnchanged (maxSteps := 2000000) (disch := omega) only [VA, if_true_, if_false_, reduceIte, Nat.reduceEqDiff, Nat.reduceAdd, Nat.reduceMul, Nat.reduceSub, Int.reduceToNat, Int.reduceAdd, Int.reduceNeg, Int.reduceSub, Int.reduceMul, Int.reduceBEq, Int.reduceBNe, Int.reduceLT, Int.reduceLE, Int.reduceEq, beq_self_eq_true, Int.reducePow, Nat.reducePow, Int.reduceDiv, Nat.reduceLeDiff, reduceCtorEq, Tryz.f26, Tryz.results26, bC140]
  refine in_W ?_
  cases k6 : (decide (0 ≤ z.x) && decide (z.x ≤ 281474976710655))
  · simp -dsimp -failIfUnchanged (maxSteps := 2000000) (disch := omega) only [VA, if_true_, if_false_, reduceIte, Nat.reduceEqDiff, Nat.reduceAdd, Nat.reduceMul, Nat.reduceSub, Int.reduceToNat, Int.reduceAdd, Int.reduceNeg, Int.reduceSub, Int.reduceMul, Int.reduceBEq, Int.reduceBNe, Int.reduceLT, Int.reduceLE, Int.reduceEq, beq_self_eq_true, Int.reducePow, Nat.reducePow, Int.reduceDiv, Nat.reduceLeDiff, reduceCtorEq, Tryz.f26, Tryz.results26, bC140]
    rw [if_pos (by simp only [inB, k6, Bool.false_and, Bool.and_false])] at h
    exact ⟨H, hH _, h⟩
  simp -dsimp -failIfUnchanged (maxSteps := 2000000) (disch := omega) only [VA, if_true_, if_false_, reduceIte, Nat.reduceEqDiff, Nat.reduceAdd, Nat.reduceMul, Nat.reduceSub, Int.reduceToNat, Int.reduceAdd, Int.reduceNeg, Int.reduceSub, Int.reduceMul, Int.reduceBEq, Int.reduceBNe, Int.reduceLT, Int.reduceLE, Int.reduceEq, beq_self_eq_true, Int.reducePow, Nat.reducePow, Int.reduceDiv, Nat.reduceLeDiff, reduceCtorEq, Tryz.f26, Tryz.results26, bC140]
  rw [if_neg (by simp only [inB, k3, k4, k5, k6]; decide)] at h
  cases k7 : decide ((24 : Int) < z.n.length)
  rotate_left
  · simp -dsimp -failIfUnchanged (maxSteps := 2000000) (disch := omega) only [VA, if_true_, if_false_, reduceIte, Nat.reduceEqDiff, Nat.reduceAdd, Nat.reduceMul, Nat.reduceSub, Int.reduceToNat, Int.reduceAdd, Int.reduceNeg, Int.reduceSub, Int.reduceMul, Int.reduceBEq, Int.reduceBNe, Int.reduceLT, Int.reduceLE, Int.reduceEq, beq_self_eq_true, Int.reducePow, Nat.reducePow, Int.reduceDiv, Nat.reduceLeDiff, reduceCtorEq, Tryz.f26, Tryz.results26, bC140]
    rw [if_pos (by simp at k7; omega)] at h
    exact ⟨H, hH _, h⟩
  simp -dsimp -failIfUnchanged (maxSteps := 2000000) (disch := omega) only [VA, if_true_, if_false_, reduceIte, Nat.reduceEqDiff, Nat.reduceAdd, Nat.reduceMul, Nat.reduceSub, Int.reduceToNat, Int.reduceAdd, Int.reduceNeg, Int.reduceSub, Int.reduceMul, Int.reduceBEq, Int.reduceBNe, Int.reduceLT, Int.reduceLE, Int.reduceEq, beq_self_eq_true, Int.reducePow, Nat.reducePow, Int.reduceDiv, Nat.reduceLeDiff, reduceCtorEq, Tryz.f26, Tryz.results26, bC140]
  rw [if_neg (by simp at k7; omega)] at h
  refine plain_W hs3 ?_
  cases k8 : plain z.n
  · simp -dsimp -failIfUnchanged (maxSteps := 2000000) (disch := omega) only [VA, if_true_, if_false_, reduceIte, Nat.reduceEqDiff, Nat.reduceAdd, Nat.reduceMul, Nat.reduceSub, Int.reduceToNat, Int.reduceAdd, Int.reduceNeg, Int.reduceSub, Int.reduceMul, Int.reduceBEq, Int.reduceBNe, Int.reduceLT, Int.reduceLE, Int.reduceEq, beq_self_eq_true, Int.reducePow, Nat.reducePow, Int.reduceDiv, Nat.reduceLeDiff, reduceCtorEq, Tryz.f26, Tryz.results26, bC140]
    rw [if_pos k8] at h
    exact ⟨H, hH _, h⟩
  rw [if_neg (by rw [k8]; simp)] at h
  simp -dsimp -failIfUnchanged (maxSteps := 2000000) (disch := omega) only [VA, if_true_, if_false_, reduceIte, Nat.reduceEqDiff, Nat.reduceAdd, Nat.reduceMul, Nat.reduceSub, Int.reduceToNat, Int.reduceAdd, Int.reduceNeg, Int.reduceSub, Int.reduceMul, Int.reduceBEq, Int.reduceBNe, Int.reduceLT, Int.reduceLE, Int.reduceEq, beq_self_eq_true, Int.reducePow, Nat.reducePow, Int.reduceDiv, Nat.reduceLeDiff, reduceCtorEq, Tryz.f26, Tryz.results26, bC140]
  generalize hasK z.k = l at h ⊢
  rcases l with _ | ⟨c, q⟩
  · rw [if_neg (by simp [startsU])] at h
    simp -dsimp -failIfUnchanged (maxSteps := 2000000) (disch := omega) only [VA, if_true_, if_false_, reduceIte, Nat.reduceEqDiff, Nat.reduceAdd, Nat.reduceMul, Nat.reduceSub, Int.reduceToNat, Int.reduceAdd, Int.reduceNeg, Int.reduceSub, Int.reduceMul, Int.reduceBEq, Int.reduceBNe, Int.reduceLT, Int.reduceLE, Int.reduceEq, beq_self_eq_true, Int.reducePow, Nat.reducePow, Int.reduceDiv, Nat.reduceLeDiff, reduceCtorEq, Tryz.f26, Tryz.results26, bC140]
    refine resource_W hs2 ?_
    simp -dsimp -failIfUnchanged (maxSteps := 2000000) (disch := omega) only [VA, if_true_, if_false_, reduceIte, Nat.reduceEqDiff, Nat.reduceAdd, Nat.reduceMul, Nat.reduceSub, Int.reduceToNat, Int.reduceAdd, Int.reduceNeg, Int.reduceSub, Int.reduceMul, Int.reduceBEq, Int.reduceBNe, Int.reduceLT, Int.reduceLE, Int.reduceEq, beq_self_eq_true, Int.reducePow, Nat.reducePow, Int.reduceDiv, Nat.reduceLeDiff, reduceCtorEq, Tryz.f26, Tryz.results26, bC140]
    exact ⟨H, hH _, h⟩
  have hz : (bs (c :: q)).size = q.length + 1 := bs_size _
  have e1 := u8_beq c 117
  rw [show ((117 : UInt8).toNat : Int) = 117 from rfl] at e1
  cases k9 : ((c.toNat : Int) == 117)
  · rw [k9] at e1
    rw [if_neg (by simp [startsU, e1])] at h
    simp -dsimp -failIfUnchanged (maxSteps := 2000000) (disch := omega) only [VA, if_true_, if_false_, reduceIte, Nat.reduceEqDiff, Nat.reduceAdd, Nat.reduceMul, Nat.reduceSub, Int.reduceToNat, Int.reduceAdd, Int.reduceNeg, Int.reduceSub, Int.reduceMul, Int.reduceBEq, Int.reduceBNe, Int.reduceLT, Int.reduceLE, Int.reduceEq, beq_self_eq_true, Int.reducePow, Nat.reducePow, Int.reduceDiv, Nat.reduceLeDiff, reduceCtorEq, Tryz.f26, Tryz.results26, bC140, byteAt_bs, k9]
    refine resource_W hs2 ?_
    simp -dsimp -failIfUnchanged (maxSteps := 2000000) (disch := omega) only [VA, if_true_, if_false_, reduceIte, Nat.reduceEqDiff, Nat.reduceAdd, Nat.reduceMul, Nat.reduceSub, Int.reduceToNat, Int.reduceAdd, Int.reduceNeg, Int.reduceSub, Int.reduceMul, Int.reduceBEq, Int.reduceBNe, Int.reduceLT, Int.reduceLE, Int.reduceEq, beq_self_eq_true, Int.reducePow, Nat.reducePow, Int.reduceDiv, Nat.reduceLeDiff, reduceCtorEq, Tryz.f26, Tryz.results26, bC140]
    exact ⟨H, hH _, h⟩
  · rw [k9] at e1
    simp -dsimp -failIfUnchanged (maxSteps := 2000000) (disch := omega) only [VA, if_true_, if_false_, reduceIte, Nat.reduceEqDiff, Nat.reduceAdd, Nat.reduceMul, Nat.reduceSub, Int.reduceToNat, Int.reduceAdd, Int.reduceNeg, Int.reduceSub, Int.reduceMul, Int.reduceBEq, Int.reduceBNe, Int.reduceLT, Int.reduceLE, Int.reduceEq, beq_self_eq_true, Int.reducePow, Nat.reducePow, Int.reduceDiv, Nat.reduceLeDiff, reduceCtorEq, Tryz.f26, Tryz.results26, bC140, byteAt_bs, k9]
    refine isBare_W (hB.le (hH _)) hs1 ?_
    cases k10 : isBare z.u
    · rw [if_pos ⟨e1, k10⟩] at h
      simp -dsimp -failIfUnchanged (maxSteps := 2000000) (disch := omega) only [VA, if_true_, if_false_, reduceIte, Nat.reduceEqDiff, Nat.reduceAdd, Nat.reduceMul, Nat.reduceSub, Int.reduceToNat, Int.reduceAdd, Int.reduceNeg, Int.reduceSub, Int.reduceMul, Int.reduceBEq, Int.reduceBNe, Int.reduceLT, Int.reduceLE, Int.reduceEq, beq_self_eq_true, Int.reducePow, Nat.reducePow, Int.reduceDiv, Nat.reduceLeDiff, reduceCtorEq, Tryz.f26, Tryz.results26, bC140]
      exact ⟨H, hH _, h⟩
    · rw [if_neg (by rw [k10]; simp)] at h
      simp -dsimp -failIfUnchanged (maxSteps := 2000000) (disch := omega) only [VA, if_true_, if_false_, reduceIte, Nat.reduceEqDiff, Nat.reduceAdd, Nat.reduceMul, Nat.reduceSub, Int.reduceToNat, Int.reduceAdd, Int.reduceNeg, Int.reduceSub, Int.reduceMul, Int.reduceBEq, Int.reduceBNe, Int.reduceLT, Int.reduceLE, Int.reduceEq, beq_self_eq_true, Int.reducePow, Nat.reducePow, Int.reduceDiv, Nat.reduceLeDiff, reduceCtorEq, Tryz.f26, Tryz.results26, bC140]
      refine resource_W hs2 ?_
      simp -dsimp -failIfUnchanged (maxSteps := 2000000) (disch := omega) only [VA, if_true_, if_false_, reduceIte, Nat.reduceEqDiff, Nat.reduceAdd, Nat.reduceMul, Nat.reduceSub, Int.reduceToNat, Int.reduceAdd, Int.reduceNeg, Int.reduceSub, Int.reduceMul, Int.reduceBEq, Int.reduceBNe, Int.reduceLT, Int.reduceLE, Int.reduceEq, beq_self_eq_true, Int.reducePow, Nat.reducePow, Int.reduceDiv, Nat.reduceLeDiff, reduceCtorEq, Tryz.f26, Tryz.results26, bC140]
      exact ⟨H, hH _, h⟩
end Go.Proofs.YtgkolnknobgcmaaGreat
end
section
namespace Go.Proofs.YtgkolnknobgcmaaGreat
open Go Go.Proofs.YtgkolnknobgcmaaGreatV Go.Shelf
set_option maxRecDepth 20000
set_option linter.unusedSimpArgs false
set_option linter.unusedVariables false
set_option maxHeartbeats 4000000
theorem bC150 : type_of% @Tryz.underlying3 ∧ type_of% @ty3 ∧ type_of% @zero3 ∧ type_of% @Tryz.underlying9 ∧ type_of% @ty9 ∧ type_of% @zero9 ∧ type_of% @Tryz.underlying183 ∧ type_of% @einf183 ∧ type_of% @elt183 ∧ type_of% @ty183 ∧ type_of% @zero183 ∧ type_of% @Tryz.ntmps100 := ⟨@Tryz.underlying3, @ty3, @zero3, @Tryz.underlying9, @ty9, @zero9, @Tryz.underlying183, @einf183, @elt183, @ty183, @zero183, @Tryz.ntmps100⟩
theorem bC151 : type_of% @Tryz.underlying3 ∧ type_of% @ty3 ∧ type_of% @zero3 ∧ type_of% @Tryz.underlying183 ∧ type_of% @einf183 ∧ type_of% @elt183 ∧ type_of% @ty183 ∧ type_of% @zero183 ∧ type_of% @Tryz.ntmps102 := ⟨@Tryz.underlying3, @ty3, @zero3, @Tryz.underlying183, @einf183, @elt183, @ty183, @zero183, @Tryz.ntmps102⟩
variable {H : Mem} {K : Value → Mem → Prop}

theorem OwnV.unupd {n : Nat} {H0 H : Mem} {v : Value} {l : Nat} {cs : List Value} {o : Nat} {B : Blk} (h : OwnV n (H0.upd o B) v l cs H) (ho : H0 o = none) : ∃ Hx, OwnV n H0 v l cs Hx ∧ Hx o = none ∧ H = Hx.upd o B := by
  obtain ⟨hl, ⟨h1, h2, rfl⟩ | ⟨b, cap, r, hb, h1, h2, h3, rfl⟩⟩ := h
  · exact ⟨H0, ⟨hl, .inl ⟨h1, h2, rfl⟩⟩, ho, rfl⟩
  · have hne : b ≠ o := by rintro rfl; simp [Mem.upd] at hb
    have hb' : H0 b = none := by simpa [Mem.upd, hne] using hb
    exact ⟨H0.upd b ⟨true, r, cs⟩, ⟨hl, .inr ⟨b, cap, r, hb', h1, h2, h3, rfl⟩⟩, by simpa [Mem.upd, Ne.symm hne] using ho, upd_comm hne⟩
theorem own_one {n : Nat} {H0 H : Mem} {v : Value} {l : Nat} {cs : List Value} (h : OwnV n H0 v l cs H) : v.cells = #[v] ∧ [v].all one = true := by
  obtain ⟨hl, ⟨rfl, h2, rfl⟩ | ⟨b, cap, r, hb, rfl, h2, h3, rfl⟩⟩ := h <;> exact ⟨rfl, rfl⟩
/-- In cell o lies a slice of one's own: these bytes. -/
def OutI (o : Nat) (Hb : Mem) (out : List UInt8) (G : Mem) : Prop :=
  ∃ Hx v, Hb o = none ∧ OwnV 1 Hb v out.length (byC out) Hx ∧ Hx o = none ∧ G = Hx.upd o ⟨true, 1, [v]⟩
theorem OutI.le {o : Nat} {Hb G : Mem} {out : List UInt8} (h : OutI o Hb out G) : Hb.le G := by
  obtain ⟨Hx, v, h1, h2, h3, rfl⟩ := h
  exact Mem.le_upd' h2.le h3 _
theorem put1_W {Hb G : Mem} {o b off : Nat} {u out : List UInt8} {most : Int} (hI : OutI o Hb out G) (hrd : Hb.read ⟨b, off, none⟩ 1 = some [.string (bs u)]) (hm : (u.length : Int) ≤ most) (hu : u.length ≤ 255) (ho : out.length ≤ 1000000)
    (h : ∀ Hb' G', Hb.le Hb' → OutI o Hb' (out ++ UInt8.ofNat u.length :: u) G' → K (.tuple #[]) G') : InvW Tryz.prog 100 #[pf b off, .int .i64 most, pf o 0] G K := by
  have hle := hI.le
  have hr1 := read_le hle hrd
  obtain ⟨Hx, v, hbo, hov, hxo, rfl⟩ := hI
  unfold pf
  (refine invW_of_pw Tryz.func100 rfl rfl (by decide +kernel) (by simp [Tryz.f100]) ?_); simp -dsimp -failIfUnchanged (maxSteps := 2000000) (disch := omega) only [VA, if_true_, if_false_, reduceIte, Nat.reduceEqDiff, Nat.reduceAdd, Nat.reduceMul, Nat.reduceSub, Int.reduceToNat, Int.reduceAdd, Int.reduceNeg, Int.reduceSub, Int.reduceMul, Int.reduceBEq, Int.reduceBNe, Int.reduceLT, Int.reduceLE, Int.reduceEq, beq_self_eq_true, Int.reducePow, Nat.reducePow, Int.reduceDiv, Nat.reduceLeDiff, reduceCtorEq, Tryz.f100, Tryz.results100, bC150, hr1]
  refine say_ok hm hu fun w G1 how => ?_
  have hr2 : G1.read ⟨o, 0, none⟩ 1 = some [v] := read_le how.le (by simp -dsimp -failIfUnchanged (maxSteps := 2000000) (disch := omega) only [VA, if_true_, if_false_, reduceIte, Nat.reduceEqDiff, Nat.reduceAdd, Nat.reduceMul, Nat.reduceSub, Int.reduceToNat, Int.reduceAdd, Int.reduceNeg, Int.reduceSub, Int.reduceMul, Int.reduceBEq, Int.reduceBNe, Int.reduceLT, Int.reduceLE, Int.reduceEq, beq_self_eq_true, Int.reducePow, Nat.reducePow, Int.reduceDiv, Nat.reduceLeDiff, reduceCtorEq, Tryz.f100, Tryz.results100, bC150])
  have hsrc := how.src
  obtain ⟨hwl, ⟨_, hw0, _⟩ | ⟨y, cap, r, hy, rfl, _, _, rfl⟩⟩ := how
  · omega
  simp -dsimp -failIfUnchanged (maxSteps := 2000000) (disch := omega) only [VA, if_true_, if_false_, reduceIte, Nat.reduceEqDiff, Nat.reduceAdd, Nat.reduceMul, Nat.reduceSub, Int.reduceToNat, Int.reduceAdd, Int.reduceNeg, Int.reduceSub, Int.reduceMul, Int.reduceBEq, Int.reduceBNe, Int.reduceLT, Int.reduceLE, Int.reduceEq, beq_self_eq_true, Int.reducePow, Nat.reducePow, Int.reduceDiv, Nat.reduceLeDiff, reduceCtorEq, Tryz.f100, Tryz.results100, bC150, hr2]
  refine semW_append ?_
  simp -dsimp -failIfUnchanged (maxSteps := 2000000) (disch := omega) only [VA, if_true_, if_false_, reduceIte, Nat.reduceEqDiff, Nat.reduceAdd, Nat.reduceMul, Nat.reduceSub, Int.reduceToNat, Int.reduceAdd, Int.reduceNeg, Int.reduceSub, Int.reduceMul, Int.reduceBEq, Int.reduceBNe, Int.reduceLT, Int.reduceLE, Int.reduceEq, beq_self_eq_true, Int.reducePow, Nat.reducePow, Int.reduceDiv, Nat.reduceLeDiff, reduceCtorEq, Tryz.f100, Tryz.results100, bC150, hr2]
  have ho2 := (hov.upd hxo ⟨true, 1, [v]⟩).upd hy ⟨true, r, byC (UInt8.ofNat u.length :: u)⟩
  refine append_own einf183 (by decide) rfl ho2 hsrc (byC_one _) (by omega) (by omega) fun v' H' ho3 => ?_
  have hyo : y ≠ o := by rintro rfl; simp [Mem.upd] at hy
  have hby : Hb y = none := by
    have hxy : Hx y = none := by simpa [Mem.upd, hyo] using hy
    cases hq : Hb y with
    | none => rfl
    | some B => obtain ⟨B', h', _⟩ := hov.le.1 _ _ hq; rw [hxy] at h'; cases h'
  rw [upd_comm hyo] at ho3
  obtain ⟨Hx', ho4, hxo', rfl⟩ := OwnV.unupd ho3 (by simpa [Mem.upd, Ne.symm hyo] using hbo)
  obtain ⟨hv1, hv2⟩ := own_one ho4
  simp -dsimp -failIfUnchanged (maxSteps := 2000000) (disch := omega) only [VA, if_true_, if_false_, reduceIte, Nat.reduceEqDiff, Nat.reduceAdd, Nat.reduceMul, Nat.reduceSub, Int.reduceToNat, Int.reduceAdd, Int.reduceNeg, Int.reduceSub, Int.reduceMul, Int.reduceBEq, Int.reduceBNe, Int.reduceLT, Int.reduceLE, Int.reduceEq, beq_self_eq_true, Int.reducePow, Nat.reducePow, Int.reduceDiv, Nat.reduceLeDiff, reduceCtorEq, Tryz.f100, Tryz.results100, bC150, hv1, hv2]
  refine h (Hb.upd y ⟨true, r, byC (UInt8.ofNat u.length :: u)⟩) _ (Mem.le_upd hby _) ⟨Hx', v', by simpa [Mem.upd, Ne.symm hyo] using hbo, ?_, hxo', rfl⟩
  have e1 : (out ++ UInt8.ofNat u.length :: u).length = out.length + (u.length + 1) := by simp
  rw [e1, byC_append]
  exact ho4
theorem put2_W {Hb G : Mem} {o b off : Nat} {out : List UInt8} {n w z : Int} (hI : OutI o Hb out G) (hrd : Hb.read ⟨b, off, none⟩ 1 = some [.int .i64 n]) (hz : 0 ≤ z ∧ z ≤ 128) (hw : w = 1 ∨ w = 2 ∨ w = 4 ∨ w = 6) (h0 : 0 ≤ n + z) (h1 : n + z < 256 ^ w.toNat) (ho : out.length ≤ 1000000)
    (h : ∀ Hb' G', Hb.le Hb' → OutI o Hb' (out ++ be w.toNat (n + z)) G' → K (.tuple #[]) G') : InvW Tryz.prog 102 #[pf b off, .int .i64 w, .int .i64 z, pf o 0] G K := by
  have hle := hI.le
  have hr1 := read_le hle hrd
  obtain ⟨Hx, v, hbo, hov, hxo, rfl⟩ := hI
  have hbig : (256 : Int) ^ w.toNat ≤ 281474976710656 := by rcases hw with rfl | rfl | rfl | rfl <;> decide
  have hw7 : w.toNat ≤ 6 := by rcases hw with rfl | rfl | rfl | rfl <;> decide
  unfold pf
  (refine invW_of_pw Tryz.func102 rfl rfl (by decide +kernel) (by simp [Tryz.f102]) ?_); simp -dsimp -failIfUnchanged (maxSteps := 2000000) (disch := omega) only [VA, if_true_, if_false_, reduceIte, Nat.reduceEqDiff, Nat.reduceAdd, Nat.reduceMul, Nat.reduceSub, Int.reduceToNat, Int.reduceAdd, Int.reduceNeg, Int.reduceSub, Int.reduceMul, Int.reduceBEq, Int.reduceBNe, Int.reduceLT, Int.reduceLE, Int.reduceEq, beq_self_eq_true, Int.reducePow, Nat.reducePow, Int.reduceDiv, Nat.reduceLeDiff, reduceCtorEq, Tryz.f102, Tryz.results102, bC151, hr1]
  refine lay_ok hw h0 h1 fun y hy => ?_
  have hyo : y ≠ o := by rintro rfl; simp [Mem.upd] at hy
  have hr2 : ((Hx.upd o ⟨true, 1, [v]⟩).upd y ⟨true, w.toNat, byC (be w.toNat (n + z))⟩).read ⟨o, 0, none⟩ 1 = some [v] := by simp -dsimp -failIfUnchanged (maxSteps := 2000000) (disch := omega) only [VA, if_true_, if_false_, reduceIte, Nat.reduceEqDiff, Nat.reduceAdd, Nat.reduceMul, Nat.reduceSub, Int.reduceToNat, Int.reduceAdd, Int.reduceNeg, Int.reduceSub, Int.reduceMul, Int.reduceBEq, Int.reduceBNe, Int.reduceLT, Int.reduceLE, Int.reduceEq, beq_self_eq_true, Int.reducePow, Nat.reducePow, Int.reduceDiv, Nat.reduceLeDiff, reduceCtorEq, Tryz.f102, Tryz.results102, bC151]
  have how : OwnV 1 (Hx.upd o ⟨true, 1, [v]⟩) (.slice (some ⟨y, 0, none⟩) w.toNat w.toNat) w.toNat (byC (be w.toNat (n + z))) ((Hx.upd o ⟨true, 1, [v]⟩).upd y ⟨true, w.toNat, byC (be w.toNat (n + z))⟩) :=
    ⟨by rw [byC_length, be_length, Nat.mul_one], .inr ⟨y, _, _, hy, rfl, Nat.le_refl _, by omega, rfl⟩⟩
  have hsrc := how.src
  simp -dsimp -failIfUnchanged (maxSteps := 2000000) (disch := omega) only [VA, if_true_, if_false_, reduceIte, Nat.reduceEqDiff, Nat.reduceAdd, Nat.reduceMul, Nat.reduceSub, Int.reduceToNat, Int.reduceAdd, Int.reduceNeg, Int.reduceSub, Int.reduceMul, Int.reduceBEq, Int.reduceBNe, Int.reduceLT, Int.reduceLE, Int.reduceEq, beq_self_eq_true, Int.reducePow, Nat.reducePow, Int.reduceDiv, Nat.reduceLeDiff, reduceCtorEq, Tryz.f102, Tryz.results102, bC151, hr2]
  refine semW_append ?_
  simp -dsimp -failIfUnchanged (maxSteps := 2000000) (disch := omega) only [VA, if_true_, if_false_, reduceIte, Nat.reduceEqDiff, Nat.reduceAdd, Nat.reduceMul, Nat.reduceSub, Int.reduceToNat, Int.reduceAdd, Int.reduceNeg, Int.reduceSub, Int.reduceMul, Int.reduceBEq, Int.reduceBNe, Int.reduceLT, Int.reduceLE, Int.reduceEq, beq_self_eq_true, Int.reducePow, Nat.reducePow, Int.reduceDiv, Nat.reduceLeDiff, reduceCtorEq, Tryz.f102, Tryz.results102, bC151, hr2]
  have ho2 := (hov.upd hxo ⟨true, 1, [v]⟩).upd hy ⟨true, w.toNat, byC (be w.toNat (n + z))⟩
  refine append_own einf183 (by decide) rfl ho2 hsrc (byC_one _) (by omega) (by omega) fun v' H' ho3 => ?_
  have hby : Hb y = none := by
    have hxy : Hx y = none := by simpa [Mem.upd, hyo] using hy
    cases hq : Hb y with
    | none => rfl
    | some B => obtain ⟨B', h', _⟩ := hov.le.1 _ _ hq; rw [hxy] at h'; cases h'
  rw [upd_comm hyo] at ho3
  obtain ⟨Hx', ho4, hxo', rfl⟩ := OwnV.unupd ho3 (by simpa [Mem.upd, Ne.symm hyo] using hbo)
  obtain ⟨hv1, hv2⟩ := own_one ho4
  simp -dsimp -failIfUnchanged (maxSteps := 2000000) (disch := omega) only [VA, if_true_, if_false_, reduceIte, Nat.reduceEqDiff, Nat.reduceAdd, Nat.reduceMul, Nat.reduceSub, Int.reduceToNat, Int.reduceAdd, Int.reduceNeg, Int.reduceSub, Int.reduceMul, Int.reduceBEq, Int.reduceBNe, Int.reduceLT, Int.reduceLE, Int.reduceEq, beq_self_eq_true, Int.reducePow, Nat.reducePow, Int.reduceDiv, Nat.reduceLeDiff, reduceCtorEq, Tryz.f102, Tryz.results102, bC151, hv1, hv2]
  refine h (Hb.upd y ⟨true, w.toNat, byC (be w.toNat (n + z))⟩) _ (Mem.le_upd hby _) ⟨Hx', v', by simpa [Mem.upd, Ne.symm hyo] using hbo, ?_, hxo', rfl⟩
  have e1 : (out ++ be w.toNat (n + z)).length = out.length + w.toNat := by simp [be_length]
  rw [e1, byC_append]
  exact ho4
end Go.Proofs.YtgkolnknobgcmaaGreat
end
section
namespace Go.Proofs.YtgkolnknobgcmaaGreat
open Go Go.Proofs.YtgkolnknobgcmaaGreatV Go.Shelf
set_option maxRecDepth 20000
set_option linter.unusedSimpArgs false
set_option linter.unusedVariables false
set_option maxHeartbeats 4000000
theorem bC160 : type_of% @Tryz.underlying5 ∧ type_of% @ty5 ∧ type_of% @zero5 ∧ type_of% @Tryz.underlying9 ∧ type_of% @ty9 ∧ type_of% @zero9 ∧ type_of% @Tryz.underlying36 ∧ type_of% @ty36 ∧ type_of% @zero36 ∧ type_of% @Tryz.underlying64 ∧ type_of% @elt64 ∧ type_of% @fld64_0 ∧ type_of% @fld64_1 ∧ type_of% @fld64_2 ∧ type_of% @fld64_3 ∧ type_of% @fld64_4 ∧ type_of% @fld64_5 ∧ type_of% @fld64_6 ∧ type_of% @fld64_7 ∧ type_of% @flds64 ∧ type_of% @ty64 ∧ type_of% @zero64 ∧ type_of% @Tryz.underlying183 ∧ type_of% @einf183 ∧ type_of% @elt183 ∧ type_of% @ty183 ∧ type_of% @zero183 ∧ type_of% @Tryz.underlying208 ∧ type_of% @ty208 ∧ type_of% @Tryz.underlying211 ∧ type_of% @ty211 ∧ type_of% @Tryz.ntmps54 := ⟨@Tryz.underlying5, @ty5, @zero5, @Tryz.underlying9, @ty9, @zero9, @Tryz.underlying36, @ty36, @zero36, @Tryz.underlying64, @elt64, @fld64_0, @fld64_1, @fld64_2, @fld64_3, @fld64_4, @fld64_5, @fld64_6, @fld64_7, @flds64, @ty64, @zero64, @Tryz.underlying183, @einf183, @elt183, @ty183, @zero183, @Tryz.underlying208, @ty208, @Tryz.underlying211, @ty211, @Tryz.ntmps54⟩
variable {H : Mem} {K : Value → Mem → Prop}

def sayL (u : List UInt8) : List UInt8 := UInt8.ofNat u.length :: u
def fieldB (z : Stz) (c : UInt8) : List UInt8 :=
  if c = 117 then sayL z.u else if c = 114 then sayL z.r else if c = 109 then sayL z.n
  else if c = 115 then be 1 (z.s + 0) else if c = 112 then be 1 (z.p + 128) else if c = 99 then be 1 (z.c + 0) else be 6 (z.x + 0)
def putL (z : Stz) : List UInt8 := UInt8.ofNat z.k.toNat :: (hasK z.k).flatMap (fieldB z)
structure Fine (z : Stz) : Prop where
  k : 1 ≤ z.k ∧ z.k ≤ 41
  u : 117 ∈ hasK z.k → z.u.length ≤ 33
  r : z.r.length ≤ 12
  n : z.n.length ≤ 24
  s : 0 ≤ z.s ∧ z.s ≤ 63
  p : -128 ≤ z.p ∧ z.p ≤ 127
  c : 0 ≤ z.c ∧ z.c ≤ 255
  x : 0 ≤ z.x ∧ z.x ≤ 281474976710655
theorem ite_U {c : Prop} [Decidable c] {a b : List UInt8} (ha : 117 ∈ a → startsU a = true) (hb : 117 ∈ b → startsU b = true) : 117 ∈ (if c then a else b) → startsU (if c then a else b) = true := by split <;> assumption
theorem hasK_u (k : Int) : 117 ∈ hasK k → startsU (hasK k) = true := by
  unfold hasK
  repeat (refine ite_U (by decide) ?_)
  decide
theorem bare_len {s : List UInt8} (h : isBare s = true) : s.length ≤ 33 := by
  unfold isBare at h
  simp only [Bool.and_eq_true, beq_iff_eq, decide_eq_true_eq] at h
  obtain ⟨h1, h2⟩ := h
  unfold bare at h2
  rw [if_pos h1] at h2
  have hl : (parse s).n.length ≤ 16 ∧ (parse s).p.length ≤ 16 := by
    unfold parse at h1 ⊢
    split at h1
    · cases h1
    · rename_i hn
      rw [if_neg hn]
      split at h1
      · rename_i he
        rw [if_pos he]
        unfold errA at he
        split at he
        · cases he
        · rename_i hg; simp only; omega
      · rename_i he; exact absurd h1 he
  rw [← h2]; simp; omega
theorem fine_of {z : Stz} (h : errS z = 0) : Fine z := by
  unfold errS at h
  split at h
  · cases h
  rename_i h1
  split at h
  · cases h
  split at h
  · cases h
  rename_i h3
  split at h
  · cases h
  rename_i h4
  split at h
  · cases h
  split at h
  · cases h
  rename_i h6
  have h1' : knownB z.k = true := (Bool.not_eq_false _).mp h1
  have h3' : (inB z.s 0 63 && inB z.p (-128) 127 && inB z.c 0 255 && inB z.x 0 281474976710655) = true := (Bool.not_eq_false _).mp h3
  simp only [inB, Bool.and_eq_true, decide_eq_true_eq] at h3'
  simp only [knownB, Bool.and_eq_true, Bool.or_eq_true, decide_eq_true_eq] at h1'
  refine ⟨by omega, fun hu => ?_, ?_, by omega, h3'.1.1.1, h3'.1.1.2, h3'.1.2, h3'.2⟩
  · have hs := hasK_u _ hu
    cases hb : isBare z.u
    · exact absurd ⟨hs, hb⟩ h6
    · exact bare_len hb
  · unfold resE at h
    split at h
    · cases h
    · omega
theorem fieldB_len {z : Stz} (h : Fine z) {c : UInt8} (hc : c ∈ hasK z.k) : (fieldB z c).length ≤ 34 := by
  unfold fieldB
  split
  · rename_i e; subst e; have := h.u hc; simp [sayL]; omega
  split
  · have := h.r; simp [sayL]; omega
  split
  · have := h.n; simp [sayL]; omega
  repeat' split
  all_goals simp [be_length]
theorem flat_len {ff : UInt8 → List UInt8} : ∀ {l : List UInt8}, (∀ c ∈ l, (ff c).length ≤ 34) → (l.flatMap ff).length ≤ 34 * l.length
  | [], _ => by simp
  | c :: l, h => by
    have h1 := h c (by simp)
    have h2 := flat_len (ff := ff) (l := l) (fun x hx => h x (by simp [hx]))
    simp only [List.flatMap_cons, List.length_append, List.length_cons]; omega
theorem putL_len {z : Stz} (h : Fine z) : (putL z).length ≤ 171 := by
  have h1 := flat_len (ff := fieldB z) (l := hasK z.k) (fun c hc => fieldB_len h hc)
  have h2 := hasK_len z.k
  simp only [putL, List.length_cons]; omega
theorem put_W {z : Stz} (hB : Base H) (hs : z.small) (h : K (.tuple #[.string (bs (if errS z = 0 then putL z else [])), .int .i64 (errS z)]) H) : InvW Tryz.prog 54 #[stzV z] H K := by
  refine InvW.weak ?_
  (refine invW_of_pw Tryz.func54 rfl rfl (by decide +kernel) (by simp [Tryz.f54]) ?_); simp -dsimp -failIfUnchanged (maxSteps := 2000000) (disch := omega) only [VA, if_true_, if_false_, reduceIte, Nat.reduceEqDiff, Nat.reduceAdd, Nat.reduceMul, Nat.reduceSub, Int.reduceToNat, Int.reduceAdd, Int.reduceNeg, Int.reduceSub, Int.reduceMul, Int.reduceBEq, Int.reduceBNe, Int.reduceLT, Int.reduceLE, Int.reduceEq, beq_self_eq_true, Int.reducePow, Nat.reducePow, Int.reduceDiv, Nat.reduceLeDiff, reduceCtorEq, Tryz.f54, Tryz.results54, bC160, stzV]
  intro b hb
  simp -dsimp -failIfUnchanged (maxSteps := 2000000) (disch := omega) only [VA, if_true_, if_false_, reduceIte, Nat.reduceEqDiff, Nat.reduceAdd, Nat.reduceMul, Nat.reduceSub, Int.reduceToNat, Int.reduceAdd, Int.reduceNeg, Int.reduceSub, Int.reduceMul, Int.reduceBEq, Int.reduceBNe, Int.reduceLT, Int.reduceLE, Int.reduceEq, beq_self_eq_true, Int.reducePow, Nat.reducePow, Int.reduceDiv, Nat.reduceLeDiff, reduceCtorEq, Tryz.f54, Tryz.results54, bC160]
  refine checkS_W (z := z) (hB.le (Mem.le_upd hb _)) hs ?_
  cases k1 : (errS z == 0)
  · rw [if_neg (beq_eq_false_iff_ne.1 k1)] at h
    simp -dsimp -failIfUnchanged (maxSteps := 2000000) (disch := omega) only [VA, if_true_, if_false_, reduceIte, Nat.reduceEqDiff, Nat.reduceAdd, Nat.reduceMul, Nat.reduceSub, Int.reduceToNat, Int.reduceAdd, Int.reduceNeg, Int.reduceSub, Int.reduceMul, Int.reduceBEq, Int.reduceBNe, Int.reduceLT, Int.reduceLE, Int.reduceEq, beq_self_eq_true, Int.reducePow, Nat.reducePow, Int.reduceDiv, Nat.reduceLeDiff, reduceCtorEq, Tryz.f54, Tryz.results54, bC160, k1, _root_.bne]
    exact ⟨H, Mem.le_upd hb _, h⟩
  have k2 := eq_of_beq k1
  rw [if_pos k2] at h
  have hf := fine_of k2
  simp -dsimp -failIfUnchanged (maxSteps := 2000000) (disch := omega) only [VA, if_true_, if_false_, reduceIte, Nat.reduceEqDiff, Nat.reduceAdd, Nat.reduceMul, Nat.reduceSub, Int.reduceToNat, Int.reduceAdd, Int.reduceNeg, Int.reduceSub, Int.reduceMul, Int.reduceBEq, Int.reduceBNe, Int.reduceLT, Int.reduceLE, Int.reduceEq, beq_self_eq_true, Int.reducePow, Nat.reducePow, Int.reduceDiv, Nat.reduceLeDiff, reduceCtorEq, Tryz.f54, Tryz.results54, bC160, k1, _root_.bne]
  have hkk : ((UInt8.ofNat z.k.toNat).toNat : Int) = z.k := ofNat_toNat (by have := hf.k; omega)
  refine semW_build ?_
  simp -dsimp -failIfUnchanged (maxSteps := 2000000) (disch := omega) only [VA, if_true_, if_false_, reduceIte, Nat.reduceEqDiff, Nat.reduceAdd, Nat.reduceMul, Nat.reduceSub, Int.reduceToNat, Int.reduceAdd, Int.reduceNeg, Int.reduceSub, Int.reduceMul, Int.reduceBEq, Int.reduceBNe, Int.reduceLT, Int.reduceLE, Int.reduceEq, beq_self_eq_true, Int.reducePow, Nat.reducePow, Int.reduceDiv, Nat.reduceLeDiff, reduceCtorEq, Tryz.f54, Tryz.results54, bC160]
  refine build_W (cs := byC [UInt8.ofNat z.k.toNat]) einf183 rfl (by decide) ?_ fun x hx => ?_
  · simp -dsimp -failIfUnchanged (maxSteps := 2000000) (disch := omega) only [VA, if_true_, if_false_, reduceIte, Nat.reduceEqDiff, Nat.reduceAdd, Nat.reduceMul, Nat.reduceSub, Int.reduceToNat, Int.reduceAdd, Int.reduceNeg, Int.reduceSub, Int.reduceMul, Int.reduceBEq, Int.reduceBNe, Int.reduceLT, Int.reduceLE, Int.reduceEq, beq_self_eq_true, Int.reducePow, Nat.reducePow, Int.reduceDiv, Nat.reduceLeDiff, reduceCtorEq, Tryz.f54, Tryz.results54, bC160, zerosL, byC, hkk]
  simp -dsimp -failIfUnchanged (maxSteps := 2000000) (disch := omega) only [VA, if_true_, if_false_, reduceIte, Nat.reduceEqDiff, Nat.reduceAdd, Nat.reduceMul, Nat.reduceSub, Int.reduceToNat, Int.reduceAdd, Int.reduceNeg, Int.reduceSub, Int.reduceMul, Int.reduceBEq, Int.reduceBNe, Int.reduceLT, Int.reduceLE, Int.reduceEq, beq_self_eq_true, Int.reducePow, Nat.reducePow, Int.reduceDiv, Nat.reduceLeDiff, reduceCtorEq, Tryz.f54, Tryz.results54, bC160]
  intro o ho
  have hxb : x ≠ b := by rintro rfl; simp [Mem.upd] at hx
  have hox : o ≠ x := by rintro rfl; simp [Mem.upd] at ho
  have hob : o ≠ b := by rintro rfl; simp [Mem.upd, hox] at ho
  have hx' : H x = none := by simpa [Mem.upd, hxb] using hx
  have ho' : H o = none := by simpa [Mem.upd, hox, hob] using ho
  simp -dsimp -failIfUnchanged (maxSteps := 2000000) (disch := omega) only [VA, if_true_, if_false_, reduceIte, Nat.reduceEqDiff, Nat.reduceAdd, Nat.reduceMul, Nat.reduceSub, Int.reduceToNat, Int.reduceAdd, Int.reduceNeg, Int.reduceSub, Int.reduceMul, Int.reduceBEq, Int.reduceBNe, Int.reduceLT, Int.reduceLE, Int.reduceEq, beq_self_eq_true, Int.reducePow, Nat.reducePow, Int.reduceDiv, Nat.reduceLeDiff, reduceCtorEq, Tryz.f54, Tryz.results54, bC160]
  refine each_W (k := z.k) (by simp -dsimp -failIfUnchanged (maxSteps := 2000000) (disch := omega) only [VA, if_true_, if_false_, reduceIte, Nat.reduceEqDiff, Nat.reduceAdd, Nat.reduceMul, Nat.reduceSub, Int.reduceToNat, Int.reduceAdd, Int.reduceNeg, Int.reduceSub, Int.reduceMul, Int.reduceBEq, Int.reduceBNe, Int.reduceLT, Int.reduceLE, Int.reduceEq, beq_self_eq_true, Int.reducePow, Nat.reducePow, Int.reduceDiv, Nat.reduceLeDiff, reduceCtorEq, Tryz.f54, Tryz.results54, bC160]) fun m cap hm => ?_
  have hmo : m ≠ o := by rintro rfl; simp [Mem.upd] at hm
  have hmx : m ≠ x := by rintro rfl; simp [Mem.upd, Ne.symm hox] at hm
  have hmb : m ≠ b := by rintro rfl; simp [Mem.upd, Ne.symm hob, Ne.symm hxb] at hm
  have hm' : H m = none := by simpa [Mem.upd, hmo, hmx, hmb] using hm
  have hmB : ∀ B, (H.upd b B) m = none := fun B => by simpa [Mem.upd, hmb] using hm'
  have hH2 : H.le ((H.upd b ⟨true, 8, z.cells⟩).upd m ⟨true, cap, byC (hasK z.k)⟩) := Mem.le_upd' (Mem.le_upd hb _) (hmB _) _
  have hrd : ∀ (i : Nat) (v : Value), z.cells[i]? = some v → ((H.upd b ⟨true, 8, z.cells⟩).upd m ⟨true, cap, byC (hasK z.k)⟩).read ⟨b, i, none⟩ 1 = some [v] := by
    intro i v hv
    have hi : i < 8 := (List.getElem?_eq_some_iff.1 hv).1
    have hc8 : z.cells.length = 8 := rfl
    simp -dsimp -failIfUnchanged (maxSteps := 2000000) (disch := omega) only [VA, if_true_, if_false_, reduceIte, Nat.reduceEqDiff, Nat.reduceAdd, Nat.reduceMul, Nat.reduceSub, Int.reduceToNat, Int.reduceAdd, Int.reduceNeg, Int.reduceSub, Int.reduceMul, Int.reduceBEq, Int.reduceBNe, Int.reduceLT, Int.reduceLE, Int.reduceEq, beq_self_eq_true, Int.reducePow, Nat.reducePow, Int.reduceDiv, Nat.reduceLeDiff, reduceCtorEq, Tryz.f54, Tryz.results54, bC160]
    rw [List.take_one, List.head?_drop, hv]; rfl
  refine ⟨fun q G => ∃ Hb out, ((H.upd b ⟨true, 8, z.cells⟩).upd m ⟨true, cap, byC (hasK z.k)⟩).le Hb ∧ OutI o Hb out G ∧ out ++ q.flatMap (fieldB z) = putL z ∧ (∀ c ∈ q, c ∈ hasK z.k), ?_, ?_, ?_, ?_, ?_⟩
  · refine ⟨_, [UInt8.ofNat z.k.toNat], Mem.le_refl _, ⟨((H.upd b ⟨true, 8, z.cells⟩).upd x ⟨true, (byC [UInt8.ofNat z.k.toNat]).length, byC [UInt8.ofNat z.k.toNat]⟩).upd m ⟨true, cap, byC (hasK z.k)⟩, _, ?_, (OwnV.new hx rfl).upd ?_ _, ?_, upd_comm hmo⟩, rfl, fun c hc => hc⟩
    · simpa [Mem.upd, Ne.symm hmo, hob] using ho'
    · simpa [Mem.upd, hmx, hmb] using hm'
    · simpa [Mem.upd, Ne.symm hmo, hob, hox] using ho'
  · rintro q G ⟨Hb, out, hle, hO, _, _⟩
    refine read_le (Mem.le_trans hle hO.le) ?_
    have hl := byC_length (hasK z.k)
    simp -dsimp -failIfUnchanged (maxSteps := 2000000) (disch := omega) only [VA, if_true_, if_false_, reduceIte, Nat.reduceEqDiff, Nat.reduceAdd, Nat.reduceMul, Nat.reduceSub, Int.reduceToNat, Int.reduceAdd, Int.reduceNeg, Int.reduceSub, Int.reduceMul, Int.reduceBEq, Int.reduceBNe, Int.reduceLT, Int.reduceLE, Int.reduceEq, beq_self_eq_true, Int.reducePow, Nat.reducePow, Int.reduceDiv, Nat.reduceLeDiff, reduceCtorEq, Tryz.f54, Tryz.results54, bC160]
    rw [List.take_of_length_le (by omega)]
  · rintro c q G ⟨Hb, out, hle, hO, hq, hin⟩ ht
    have hpl := putL_len hf
    have hol : out.length ≤ 171 := by rw [← hq, List.length_append] at hpl; omega
    have hin' : ∀ c' ∈ q, c' ∈ hasK z.k := fun c' hc' => hin c' (by simp [hc'])
    have hc := hin c (by simp)
    unfold isText at ht
    simp only [Bool.or_eq_true, beq_iff_eq] at ht
    rw [List.flatMap_cons, ← List.append_assoc] at hq
    rcases ht with (rfl | rfl) | rfl
    · exact put1_W hO (read_le hle (hrd 1 _ rfl)) (by have := hf.u hc; show (z.u.length : Int) ≤ 33; omega) (by have := hf.u hc; omega) (by omega) fun Hb' G' hl hO' => ⟨Hb', _, Mem.le_trans hle hl, hO', hq, hin'⟩
    · exact put1_W hO (read_le hle (hrd 2 _ rfl)) (by have := hf.r; show (z.r.length : Int) ≤ 12; omega) (by have := hf.r; omega) (by omega) fun Hb' G' hl hO' => ⟨Hb', _, Mem.le_trans hle hl, hO', hq, hin'⟩
    · exact put1_W hO (read_le hle (hrd 3 _ rfl)) (by have := hf.n; show (z.n.length : Int) ≤ 24; omega) (by have := hf.n; omega) (by omega) fun Hb' G' hl hO' => ⟨Hb', _, Mem.le_trans hle hl, hO', hq, hin'⟩
  · rintro c q G ⟨Hb, out, hle, hO, hq, hin⟩ ht
    have hpl := putL_len hf
    have hol : out.length ≤ 171 := by rw [← hq, List.length_append] at hpl; omega
    have hin' : ∀ c' ∈ q, c' ∈ hasK z.k := fun c' hc' => hin c' (by simp [hc'])
    rw [List.flatMap_cons, ← List.append_assoc] at hq
    unfold isText at ht
    simp only [Bool.or_eq_false_iff, beq_eq_false_iff_ne] at ht
    unfold fieldB at hq
    rw [if_neg ht.1.1, if_neg ht.1.2, if_neg ht.2] at hq
    have e1 : (256 : Int) ^ (1 : Int).toNat = 256 := rfl
    have e6 : (256 : Int) ^ (6 : Int).toNat = 281474976710656 := rfl
    have f1 := hf.s; have f2 := hf.p; have f3 := hf.c; have f4 := hf.x
    unfold numV
    split
    · rename_i h1; rw [if_pos h1] at hq
      exact put2_W (n := z.s) (w := 1) (z := 0) hO (read_le hle (hrd 4 _ rfl)) (by omega) (by omega) (by omega) (by omega) (by omega) fun Hb' G' hl hO' => ⟨Hb', _, Mem.le_trans hle hl, hO', hq, hin'⟩
    rename_i h1; rw [if_neg h1] at hq
    split
    · rename_i h1; rw [if_pos h1] at hq
      exact put2_W (n := z.p) (w := 1) (z := 128) hO (read_le hle (hrd 5 _ rfl)) (by omega) (by omega) (by omega) (by omega) (by omega) fun Hb' G' hl hO' => ⟨Hb', _, Mem.le_trans hle hl, hO', hq, hin'⟩
    rename_i h1; rw [if_neg h1] at hq
    split
    · rename_i h1; rw [if_pos h1] at hq
      exact put2_W (n := z.c) (w := 1) (z := 0) hO (read_le hle (hrd 6 _ rfl)) (by omega) (by omega) (by omega) (by omega) (by omega) fun Hb' G' hl hO' => ⟨Hb', _, Mem.le_trans hle hl, hO', hq, hin'⟩
    rename_i h1; rw [if_neg h1] at hq
    exact put2_W (n := z.x) (w := 6) (z := 0) hO (read_le hle (hrd 7 _ rfl)) (by omega) (by omega) (by omega) (by omega) (by omega) fun Hb' G' hl hO' => ⟨Hb', _, Mem.le_trans hle hl, hO', hq, hin'⟩
  · rintro G ⟨Hb, out, hle, hO, hq, hin⟩
    rw [List.flatMap_nil, List.append_nil] at hq
    subst hq
    have hHG : H.le G := Mem.le_trans (Mem.le_trans hH2 hle) hO.le
    obtain ⟨Hx, v, hbo, hov, hxo, rfl⟩ := hO
    have hcv : conv (some (TypeDesc.slice 5)) (some .string) v = none := by rcases hov.2 with ⟨rfl, _⟩ | ⟨_, _, _, _, rfl, _⟩ <;> rfl
    simp -dsimp -failIfUnchanged (maxSteps := 2000000) (disch := omega) only [VA, if_true_, if_false_, reduceIte, Nat.reduceEqDiff, Nat.reduceAdd, Nat.reduceMul, Nat.reduceSub, Int.reduceToNat, Int.reduceAdd, Int.reduceNeg, Int.reduceSub, Int.reduceMul, Int.reduceBEq, Int.reduceBNe, Int.reduceLT, Int.reduceLE, Int.reduceEq, beq_self_eq_true, Int.reducePow, Nat.reducePow, Int.reduceDiv, Nat.reduceLeDiff, reduceCtorEq, Tryz.f54, Tryz.results54, bC160, hcv]
    refine conv_string (l := putL z) Tryz.underlying183 Tryz.underlying5 Tryz.underlying9 ((hov.src).le (Mem.le_upd hxo _)) ?_
    simp -dsimp -failIfUnchanged (maxSteps := 2000000) (disch := omega) only [VA, if_true_, if_false_, reduceIte, Nat.reduceEqDiff, Nat.reduceAdd, Nat.reduceMul, Nat.reduceSub, Int.reduceToNat, Int.reduceAdd, Int.reduceNeg, Int.reduceSub, Int.reduceMul, Int.reduceBEq, Int.reduceBNe, Int.reduceLT, Int.reduceLE, Int.reduceEq, beq_self_eq_true, Int.reducePow, Nat.reducePow, Int.reduceDiv, Nat.reduceLeDiff, reduceCtorEq, Tryz.f54, Tryz.results54, bC160]
    rw [k2] at h
    exact ⟨H, hHG, h⟩
end Go.Proofs.YtgkolnknobgcmaaGreat
end
section
namespace Go.Proofs.YtgkolnknobgcmaaGreat
open Go Go.Proofs.YtgkolnknobgcmaaGreatV Go.Shelf
set_option maxRecDepth 20000
set_option linter.unusedSimpArgs false
set_option linter.unusedVariables false
set_option maxHeartbeats 4000000
variable {H : Mem} {K : Value → Mem → Prop}

theorem cell_of_read {w : World} (hw : Fits w H) {a : Addr} {v : Value} (h : H.read a 1 = some [v]) : w.cell? a = some v := by
  obtain ⟨b, o, B, rfl, hb, hle, hcs⟩ := read_parts h
  refine hw.cell hb ?_
  have := congrArg (·[0]?) hcs
  simp [List.getElem?_take] at this
  exact this.symm
theorem loadI_W {a : Addr} {x : Int} (hr : H.read a 1 = some [.int .i64 x]) (h : K (.int .i64 x) H) : InvW Tryz.prog 111 #[.pointer (some a)] H K :=
  fun w hw => ⟨.value (.int .i64 x), w, H, run_call_load Tryz.func111 rfl rfl rfl .i64 rfl (cell_of_read hw hr), hw, h⟩
theorem storeI_W {b o : Nat} {r : Nat} {cs : List Value} {x y : Int} (hb : H b = some ⟨true, r, cs⟩) (ho : cs[o]? = some (.int .i64 x)) (hr : o < r) (h : K (.tuple #[]) (H.upd b ⟨true, r, cs.set o (.int .i64 y)⟩)) :
    InvW Tryz.prog 153 #[.pointer (some ⟨b, o, none⟩), .int .i64 y] H K :=
  fun w hw => ⟨.value (.tuple #[]), _, _, run_call_store Tryz.func153 rfl rfl rfl rfl (hw.cell hb ho) (hw.frozen hb rfl hr), hw.setCell hb rfl _, h⟩
theorem addI_W {b o : Nat} {r : Nat} {cs : List Value} {x y : Int} (hb : H b = some ⟨true, r, cs⟩) (ho : cs[o]? = some (.int .i64 x)) (hr : o < r) (hs : -9223372036854775808 ≤ x + y ∧ x + y ≤ 9223372036854775807) (h : K (.int .i64 (x + y)) (H.upd b ⟨true, r, cs.set o (.int .i64 (x + y))⟩)) :
    InvW Tryz.prog 154 #[.pointer (some ⟨b, o, none⟩), .int .i64 y] H K :=
  fun w hw => ⟨.value (.int .i64 (x + y)), _, _, run_call_add Tryz.func154 rfl rfl rfl .i64 rfl (hw.cell hb ho) (hw.frozen hb rfl hr) (by
    have : IntKind.i64.wrap (x + y) = x + y := by rw [IntKind.wrap_i64]; omega
    simp [Op.intArith, this]), hw.setCell hb rfl _, h⟩
end Go.Proofs.YtgkolnknobgcmaaGreat
end
section
namespace Go.Proofs.YtgkolnknobgcmaaGreat
open Go Go.Proofs.YtgkolnknobgcmaaGreatV Go.Shelf
set_option maxRecDepth 20000
set_option linter.unusedSimpArgs false
set_option linter.unusedVariables false
set_option maxHeartbeats 4000000
theorem bC180 : type_of% @Tryz.underlying137 ∧ type_of% @elt137 ∧ type_of% @fld137_0 ∧ type_of% @fld137_1 ∧ type_of% @fld137_2 ∧ type_of% @flds137 ∧ type_of% @ty137 ∧ type_of% @zero137 ∧ type_of% @Tryz.underlying218 ∧ type_of% @ty218 ∧ type_of% @zero218 ∧ type_of% @Tryz.ntmps62 := ⟨@Tryz.underlying137, @elt137, @fld137_0, @fld137_1, @fld137_2, @flds137, @ty137, @zero137, @Tryz.underlying218, @ty218, @zero218, @Tryz.ntmps62⟩
theorem bC181 : type_of% @Tryz.underlying2 ∧ type_of% @ty2 ∧ type_of% @zero2 ∧ type_of% @Tryz.underlying137 ∧ type_of% @elt137 ∧ type_of% @fld137_0 ∧ type_of% @fld137_1 ∧ type_of% @fld137_2 ∧ type_of% @flds137 ∧ type_of% @ty137 ∧ type_of% @zero137 ∧ type_of% @Tryz.underlying218 ∧ type_of% @ty218 ∧ type_of% @zero218 ∧ type_of% @Tryz.ntmps97 := ⟨@Tryz.underlying2, @ty2, @zero2, @Tryz.underlying137, @elt137, @fld137_0, @fld137_1, @fld137_2, @flds137, @ty137, @zero137, @Tryz.underlying218, @ty218, @zero218, @Tryz.ntmps97⟩
theorem bC182 : type_of% @Tryz.underlying2 ∧ type_of% @ty2 ∧ type_of% @zero2 ∧ type_of% @Tryz.underlying137 ∧ type_of% @elt137 ∧ type_of% @fld137_0 ∧ type_of% @fld137_1 ∧ type_of% @fld137_2 ∧ type_of% @flds137 ∧ type_of% @ty137 ∧ type_of% @zero137 ∧ type_of% @Tryz.underlying218 ∧ type_of% @ty218 ∧ type_of% @zero218 ∧ type_of% @Tryz.ntmps98 := ⟨@Tryz.underlying2, @ty2, @zero2, @Tryz.underlying137, @elt137, @fld137_0, @fld137_1, @fld137_2, @flds137, @ty137, @zero137, @Tryz.underlying218, @ty218, @zero218, @Tryz.ntmps98⟩
theorem bC183 : type_of% @Tryz.underlying2 ∧ type_of% @ty2 ∧ type_of% @zero2 ∧ type_of% @Tryz.underlying3 ∧ type_of% @ty3 ∧ type_of% @zero3 ∧ type_of% @Tryz.underlying138 ∧ type_of% @elt138 ∧ type_of% @flds138 ∧ type_of% @ty138 ∧ type_of% @zero138 ∧ type_of% @Tryz.underlying149 ∧ type_of% @elt149 ∧ type_of% @fld149_0 ∧ type_of% @fld149_1 ∧ type_of% @fld149_2 ∧ type_of% @flds149 ∧ type_of% @ty149 ∧ type_of% @zero149 ∧ type_of% @Tryz.underlying201 ∧ type_of% @ty201 ∧ type_of% @zero201 ∧ type_of% @Tryz.ntmps53 := ⟨@Tryz.underlying2, @ty2, @zero2, @Tryz.underlying3, @ty3, @zero3, @Tryz.underlying138, @elt138, @flds138, @ty138, @zero138, @Tryz.underlying149, @elt149, @fld149_0, @fld149_1, @fld149_2, @flds149, @ty149, @zero149, @Tryz.underlying201, @ty201, @zero201, @Tryz.ntmps53⟩
theorem bC184 : type_of% @Tryz.underlying5 ∧ type_of% @ty5 ∧ type_of% @zero5 ∧ type_of% @Tryz.ntmps56 := ⟨@Tryz.underlying5, @ty5, @zero5, @Tryz.ntmps56⟩
theorem bC185 : type_of% @Tryz.underlying3 ∧ type_of% @ty3 ∧ type_of% @zero3 ∧ type_of% @Tryz.underlying9 ∧ type_of% @ty9 ∧ type_of% @zero9 ∧ type_of% @Tryz.ntmps55 := ⟨@Tryz.underlying3, @ty3, @zero3, @Tryz.underlying9, @ty9, @zero9, @Tryz.ntmps55⟩
variable {H : Mem} {K : Value → Mem → Prop}

theorem read_cell {b i r : Nat} {rw : Bool} {cs : List Value} {v : Value} (hb : H b = some ⟨rw, r, cs⟩) (hi : cs[i]? = some v) : H.read ⟨b, i, none⟩ 1 = some [v] := by
  have hlt : i < cs.length := (List.getElem?_eq_some_iff.1 hi).1
  simp only [Mem.read, hb, Option.bind_some, Blk.read]
  rw [if_pos (by omega), List.take_one, List.head?_drop, hi]; rfl
theorem loadW_W {b i r : Nat} {rw : Bool} {cs : List Value} {x : Int} (hb : H b = some ⟨rw, r, cs⟩) (hi : cs[i]? = some (.int .i64 x)) (h : K (.int .i64 x) H) : InvW Tryz.prog 62 #[.pointer (some ⟨b, i, none⟩)] H K := by
  (refine invW_of_pw Tryz.func62 rfl rfl (by decide +kernel) (by simp [Tryz.f62]) ?_); simp -dsimp -failIfUnchanged (maxSteps := 2000000) (disch := omega) only [VA, if_true_, if_false_, reduceIte, Nat.reduceEqDiff, Nat.reduceAdd, Nat.reduceMul, Nat.reduceSub, Int.reduceToNat, Int.reduceAdd, Int.reduceNeg, Int.reduceSub, Int.reduceMul, Int.reduceBEq, Int.reduceBNe, Int.reduceLT, Int.reduceLE, Int.reduceEq, beq_self_eq_true, Int.reducePow, Nat.reducePow, Int.reduceDiv, Nat.reduceLeDiff, reduceCtorEq, Tryz.f62, Tryz.results62, bC180]
  refine loadI_W (read_cell hb hi) ?_
  simp -dsimp -failIfUnchanged (maxSteps := 2000000) (disch := omega) only [VA, if_true_, if_false_, reduceIte, Nat.reduceEqDiff, Nat.reduceAdd, Nat.reduceMul, Nat.reduceSub, Int.reduceToNat, Int.reduceAdd, Int.reduceNeg, Int.reduceSub, Int.reduceMul, Int.reduceBEq, Int.reduceBNe, Int.reduceLT, Int.reduceLE, Int.reduceEq, beq_self_eq_true, Int.reducePow, Nat.reducePow, Int.reduceDiv, Nat.reduceLeDiff, reduceCtorEq, Tryz.f62, Tryz.results62, bC180]
  exact h
theorem storeW_W {b o r : Nat} {cs : List Value} {x y : Int} (hb : H b = some ⟨true, r, cs⟩) (ho : cs[o]? = some (.int .i64 x)) (hr : o < r) (h : K (.tuple #[]) (H.upd b ⟨true, r, cs.set o (.int .i64 y)⟩)) : InvW Tryz.prog 97 #[.pointer (some ⟨b, o, none⟩), .int .i64 y] H K := by
  (refine invW_of_pw Tryz.func97 rfl rfl (by decide +kernel) (by simp [Tryz.f97]) ?_); simp -dsimp -failIfUnchanged (maxSteps := 2000000) (disch := omega) only [VA, if_true_, if_false_, reduceIte, Nat.reduceEqDiff, Nat.reduceAdd, Nat.reduceMul, Nat.reduceSub, Int.reduceToNat, Int.reduceAdd, Int.reduceNeg, Int.reduceSub, Int.reduceMul, Int.reduceBEq, Int.reduceBNe, Int.reduceLT, Int.reduceLE, Int.reduceEq, beq_self_eq_true, Int.reducePow, Nat.reducePow, Int.reduceDiv, Nat.reduceLeDiff, reduceCtorEq, Tryz.f97, Tryz.results97, bC181]
  refine storeI_W hb ho hr ?_
  simp -dsimp -failIfUnchanged (maxSteps := 2000000) (disch := omega) only [VA, if_true_, if_false_, reduceIte, Nat.reduceEqDiff, Nat.reduceAdd, Nat.reduceMul, Nat.reduceSub, Int.reduceToNat, Int.reduceAdd, Int.reduceNeg, Int.reduceSub, Int.reduceMul, Int.reduceBEq, Int.reduceBNe, Int.reduceLT, Int.reduceLE, Int.reduceEq, beq_self_eq_true, Int.reducePow, Nat.reducePow, Int.reduceDiv, Nat.reduceLeDiff, reduceCtorEq, Tryz.f97, Tryz.results97, bC181]
  exact h
theorem addW_W {b o r : Nat} {cs : List Value} {x y : Int} (hb : H b = some ⟨true, r, cs⟩) (ho : cs[o]? = some (.int .i64 x)) (hr : o < r) (hs : -9223372036854775808 ≤ x + y ∧ x + y ≤ 9223372036854775807) (h : K (.int .i64 (x + y)) (H.upd b ⟨true, r, cs.set o (.int .i64 (x + y))⟩)) : InvW Tryz.prog 98 #[.pointer (some ⟨b, o, none⟩), .int .i64 y] H K := by
  (refine invW_of_pw Tryz.func98 rfl rfl (by decide +kernel) (by simp [Tryz.f98]) ?_); simp -dsimp -failIfUnchanged (maxSteps := 2000000) (disch := omega) only [VA, if_true_, if_false_, reduceIte, Nat.reduceEqDiff, Nat.reduceAdd, Nat.reduceMul, Nat.reduceSub, Int.reduceToNat, Int.reduceAdd, Int.reduceNeg, Int.reduceSub, Int.reduceMul, Int.reduceBEq, Int.reduceBNe, Int.reduceLT, Int.reduceLE, Int.reduceEq, beq_self_eq_true, Int.reducePow, Nat.reducePow, Int.reduceDiv, Nat.reduceLeDiff, reduceCtorEq, Tryz.f98, Tryz.results98, bC182]
  refine addI_W hb ho hr hs ?_
  simp -dsimp -failIfUnchanged (maxSteps := 2000000) (disch := omega) only [VA, if_true_, if_false_, reduceIte, Nat.reduceEqDiff, Nat.reduceAdd, Nat.reduceMul, Nat.reduceSub, Int.reduceToNat, Int.reduceAdd, Int.reduceNeg, Int.reduceSub, Int.reduceMul, Int.reduceBEq, Int.reduceBNe, Int.reduceLT, Int.reduceLE, Int.reduceEq, beq_self_eq_true, Int.reducePow, Nat.reducePow, Int.reduceDiv, Nat.reduceLeDiff, reduceCtorEq, Tryz.f98, Tryz.results98, bC182]
  exact h
/-- A count and more. -/
def sat (c n : Int) : Int := if 4611686018427387904 - c < n then 4611686018427387904 else c + n
theorem more_W {b i r : Nat} {cs : List Value} {c n : Int} (hb : H b = some ⟨true, r, cs⟩) (hi : i < 12) (hc : cs[i]? = some (.int .i64 c)) (hr : i < r) (h0 : 0 ≤ c ∧ c ≤ 4611686018427387904) (hn : 0 ≤ n)
    (h : K (.tuple #[]) (H.upd b ⟨true, r, cs.set i (.int .i64 (sat c n))⟩)) : InvW Tryz.prog 53 #[.pointer (some ⟨b, 0, none⟩), .int .i64 i, .int .i64 n] H K := by
  unfold sat at h
  have hi1 : (0 + 0 + (i : Int).toNat * 1) = i := by omega
  cases k1 : decide (4611686018427387904 - c < n)
  · have k2 := of_decide_eq_false k1
    rw [if_neg k2] at h
    (refine invW_of_pw Tryz.func53 rfl rfl (by decide +kernel) (by simp [Tryz.f53]) ?_); simp -dsimp -failIfUnchanged (maxSteps := 2000000) (disch := omega) only [VA, if_true_, if_false_, reduceIte, Nat.reduceEqDiff, Nat.reduceAdd, Nat.reduceMul, Nat.reduceSub, Int.reduceToNat, Int.reduceAdd, Int.reduceNeg, Int.reduceSub, Int.reduceMul, Int.reduceBEq, Int.reduceBNe, Int.reduceLT, Int.reduceLE, Int.reduceEq, beq_self_eq_true, Int.reducePow, Nat.reducePow, Int.reduceDiv, Nat.reduceLeDiff, reduceCtorEq, Tryz.f53, Tryz.results53, bC183, hi1, Int.toNat_natCast, Nat.mul_one, Nat.zero_add]
    refine loadW_W hb hc ?_
    simp -dsimp -failIfUnchanged (maxSteps := 2000000) (disch := omega) only [VA, if_true_, if_false_, reduceIte, Nat.reduceEqDiff, Nat.reduceAdd, Nat.reduceMul, Nat.reduceSub, Int.reduceToNat, Int.reduceAdd, Int.reduceNeg, Int.reduceSub, Int.reduceMul, Int.reduceBEq, Int.reduceBNe, Int.reduceLT, Int.reduceLE, Int.reduceEq, beq_self_eq_true, Int.reducePow, Nat.reducePow, Int.reduceDiv, Nat.reduceLeDiff, reduceCtorEq, Tryz.f53, Tryz.results53, bC183, k1]
    refine addW_W hb hc hr (by omega) ?_
    simp -dsimp -failIfUnchanged (maxSteps := 2000000) (disch := omega) only [VA, if_true_, if_false_, reduceIte, Nat.reduceEqDiff, Nat.reduceAdd, Nat.reduceMul, Nat.reduceSub, Int.reduceToNat, Int.reduceAdd, Int.reduceNeg, Int.reduceSub, Int.reduceMul, Int.reduceBEq, Int.reduceBNe, Int.reduceLT, Int.reduceLE, Int.reduceEq, beq_self_eq_true, Int.reducePow, Nat.reducePow, Int.reduceDiv, Nat.reduceLeDiff, reduceCtorEq, Tryz.f53, Tryz.results53, bC183, k1]
    exact h
  · have k2 := of_decide_eq_true k1
    rw [if_pos k2] at h
    (refine invW_of_pw Tryz.func53 rfl rfl (by decide +kernel) (by simp [Tryz.f53]) ?_); simp -dsimp -failIfUnchanged (maxSteps := 2000000) (disch := omega) only [VA, if_true_, if_false_, reduceIte, Nat.reduceEqDiff, Nat.reduceAdd, Nat.reduceMul, Nat.reduceSub, Int.reduceToNat, Int.reduceAdd, Int.reduceNeg, Int.reduceSub, Int.reduceMul, Int.reduceBEq, Int.reduceBNe, Int.reduceLT, Int.reduceLE, Int.reduceEq, beq_self_eq_true, Int.reducePow, Nat.reducePow, Int.reduceDiv, Nat.reduceLeDiff, reduceCtorEq, Tryz.f53, Tryz.results53, bC183, hi1, Int.toNat_natCast, Nat.mul_one, Nat.zero_add]
    refine loadW_W hb hc ?_
    simp -dsimp -failIfUnchanged (maxSteps := 2000000) (disch := omega) only [VA, if_true_, if_false_, reduceIte, Nat.reduceEqDiff, Nat.reduceAdd, Nat.reduceMul, Nat.reduceSub, Int.reduceToNat, Int.reduceAdd, Int.reduceNeg, Int.reduceSub, Int.reduceMul, Int.reduceBEq, Int.reduceBNe, Int.reduceLT, Int.reduceLE, Int.reduceEq, beq_self_eq_true, Int.reducePow, Nat.reducePow, Int.reduceDiv, Nat.reduceLeDiff, reduceCtorEq, Tryz.f53, Tryz.results53, bC183, k1]
    refine storeW_W hb hc hr ?_
    simp -dsimp -failIfUnchanged (maxSteps := 2000000) (disch := omega) only [VA, if_true_, if_false_, reduceIte, Nat.reduceEqDiff, Nat.reduceAdd, Nat.reduceMul, Nat.reduceSub, Int.reduceToNat, Int.reduceAdd, Int.reduceNeg, Int.reduceSub, Int.reduceMul, Int.reduceBEq, Int.reduceBNe, Int.reduceLT, Int.reduceLE, Int.reduceEq, beq_self_eq_true, Int.reducePow, Nat.reducePow, Int.reduceDiv, Nat.reduceLeDiff, reduceCtorEq, Tryz.f53, Tryz.results53, bC183, k1]
    exact h
def kindP (k : Int) : Int :=
  if k == 32 then 4 else if k == 33 then 5 else if k == 34 then 6 else if k == 35 then 7 else if k == 36 then 8 else if k == 38 then 9 else if k == 39 then 9 else if k == 40 then 10 else -1
theorem kind_W {k : Int} (h : K (.int .i64 (kindP k)) H) : InvW Tryz.prog 56 #[.int .u8 k] H K := by
  unfold kindP at h
  by_cases hk : k = 32 ∨ k = 33 ∨ k = 34 ∨ k = 35 ∨ k = 36 ∨ k = 38 ∨ k = 39 ∨ k = 40
  · rcases hk with rfl | rfl | rfl | rfl | rfl | rfl | rfl | rfl <;> ((refine invW_of_pw Tryz.func56 rfl rfl (by decide +kernel) (by simp [Tryz.f56]) ?_); simp -dsimp -failIfUnchanged (maxSteps := 2000000) (disch := omega) only [VA, if_true_, if_false_, reduceIte, Nat.reduceEqDiff, Nat.reduceAdd, Nat.reduceMul, Nat.reduceSub, Int.reduceToNat, Int.reduceAdd, Int.reduceNeg, Int.reduceSub, Int.reduceMul, Int.reduceBEq, Int.reduceBNe, Int.reduceLT, Int.reduceLE, Int.reduceEq, beq_self_eq_true, Int.reducePow, Nat.reducePow, Int.reduceDiv, Nat.reduceLeDiff, reduceCtorEq, Tryz.f56, Tryz.results56, bC184]; exact h)
  · simp only [not_or] at hk
    obtain ⟨n1, n2, n3, n4, n5, n6, n7, n8⟩ := hk
    have c1 : (k == 32) = false := beq_eq_false_iff_ne.2 n1
    have c2 : (k == 33) = false := beq_eq_false_iff_ne.2 n2
    have c3 : (k == 34) = false := beq_eq_false_iff_ne.2 n3
    have c4 : (k == 35) = false := beq_eq_false_iff_ne.2 n4
    have c5 : (k == 36) = false := beq_eq_false_iff_ne.2 n5
    have c6 : (k == 38) = false := beq_eq_false_iff_ne.2 n6
    have c7 : (k == 39) = false := beq_eq_false_iff_ne.2 n7
    have c8 : (k == 40) = false := beq_eq_false_iff_ne.2 n8
    rw [c1, c2, c3, c4, c5, c6, c7, c8] at h
    (refine invW_of_pw Tryz.func56 rfl rfl (by decide +kernel) (by simp [Tryz.f56]) ?_); simp -dsimp -failIfUnchanged (maxSteps := 2000000) (disch := omega) only [VA, if_true_, if_false_, reduceIte, Nat.reduceEqDiff, Nat.reduceAdd, Nat.reduceMul, Nat.reduceSub, Int.reduceToNat, Int.reduceAdd, Int.reduceNeg, Int.reduceSub, Int.reduceMul, Int.reduceBEq, Int.reduceBNe, Int.reduceLT, Int.reduceLE, Int.reduceEq, beq_self_eq_true, Int.reducePow, Nat.reducePow, Int.reduceDiv, Nat.reduceLeDiff, reduceCtorEq, Tryz.f56, Tryz.results56, bC184, c1, c2, c3, c4, c5, c6, c7, c8]
    exact h
def sizeF (s : List UInt8) : Int := if s = [] ∨ 128 < s.length then 0 else 2 + s.length
theorem size_W {s : List UInt8} (h : K (.int .i64 (sizeF s)) H) : InvW Tryz.prog 55 #[.string (bs s)] H K := by
  unfold sizeF at h
  cases k1 : decide (s = [])
  · have k2 := of_decide_eq_false k1
    cases k3 : decide ((128 : Int) < s.length)
    · have k4 := of_decide_eq_false k3
      rw [if_neg (by rintro (x | x); exact k2 x; omega)] at h
      (refine invW_of_pw Tryz.func55 rfl rfl (by decide +kernel) (by simp [Tryz.f55]) ?_); simp -dsimp -failIfUnchanged (maxSteps := 2000000) (disch := omega) only [VA, if_true_, if_false_, reduceIte, Nat.reduceEqDiff, Nat.reduceAdd, Nat.reduceMul, Nat.reduceSub, Int.reduceToNat, Int.reduceAdd, Int.reduceNeg, Int.reduceSub, Int.reduceMul, Int.reduceBEq, Int.reduceBNe, Int.reduceLT, Int.reduceLE, Int.reduceEq, beq_self_eq_true, Int.reducePow, Nat.reducePow, Int.reduceDiv, Nat.reduceLeDiff, reduceCtorEq, Tryz.f55, Tryz.results55, bC185, k1, k3]
      exact h
    · have k4 := of_decide_eq_true k3
      rw [if_pos (.inr (by omega))] at h
      (refine invW_of_pw Tryz.func55 rfl rfl (by decide +kernel) (by simp [Tryz.f55]) ?_); simp -dsimp -failIfUnchanged (maxSteps := 2000000) (disch := omega) only [VA, if_true_, if_false_, reduceIte, Nat.reduceEqDiff, Nat.reduceAdd, Nat.reduceMul, Nat.reduceSub, Int.reduceToNat, Int.reduceAdd, Int.reduceNeg, Int.reduceSub, Int.reduceMul, Int.reduceBEq, Int.reduceBNe, Int.reduceLT, Int.reduceLE, Int.reduceEq, beq_self_eq_true, Int.reducePow, Nat.reducePow, Int.reduceDiv, Nat.reduceLeDiff, reduceCtorEq, Tryz.f55, Tryz.results55, bC185, k1, k3]
      exact h
  · rw [if_pos (.inl (of_decide_eq_true k1))] at h
    (refine invW_of_pw Tryz.func55 rfl rfl (by decide +kernel) (by simp [Tryz.f55]) ?_); simp -dsimp -failIfUnchanged (maxSteps := 2000000) (disch := omega) only [VA, if_true_, if_false_, reduceIte, Nat.reduceEqDiff, Nat.reduceAdd, Nat.reduceMul, Nat.reduceSub, Int.reduceToNat, Int.reduceAdd, Int.reduceNeg, Int.reduceSub, Int.reduceMul, Int.reduceBEq, Int.reduceBNe, Int.reduceLT, Int.reduceLE, Int.reduceEq, beq_self_eq_true, Int.reducePow, Nat.reducePow, Int.reduceDiv, Nat.reduceLeDiff, reduceCtorEq, Tryz.f55, Tryz.results55, bC185, k1]
    exact h
end Go.Proofs.YtgkolnknobgcmaaGreat
end
section
namespace Go.Proofs.YtgkolnknobgcmaaGreat
open Go Go.Proofs.YtgkolnknobgcmaaGreatV Go.Shelf
set_option maxRecDepth 20000
set_option linter.unusedSimpArgs false
set_option linter.unusedVariables false
set_option maxHeartbeats 4000000
theorem bC190 : type_of% @Tryz.underlying3 ∧ type_of% @ty3 ∧ type_of% @zero3 ∧ type_of% @Tryz.underlying5 ∧ type_of% @ty5 ∧ type_of% @zero5 ∧ type_of% @Tryz.underlying9 ∧ type_of% @ty9 ∧ type_of% @zero9 ∧ type_of% @Tryz.underlying25 ∧ type_of% @ty25 ∧ type_of% @zero25 ∧ type_of% @Tryz.underlying30 ∧ type_of% @einf30 ∧ type_of% @elt30 ∧ type_of% @ty30 ∧ type_of% @zero30 ∧ type_of% @Tryz.underlying36 ∧ type_of% @ty36 ∧ type_of% @zero36 ∧ type_of% @Tryz.underlying37 ∧ type_of% @einf37 ∧ type_of% @elt37 ∧ type_of% @ty37 ∧ type_of% @zero37 ∧ type_of% @Tryz.underlying39 ∧ type_of% @elt39 ∧ type_of% @fld39_0 ∧ type_of% @fld39_1 ∧ type_of% @fld39_2 ∧ type_of% @flds39 ∧ type_of% @ty39 ∧ type_of% @zero39 ∧ type_of% @Tryz.underlying64 ∧ type_of% @elt64 ∧ type_of% @fld64_0 ∧ type_of% @fld64_1 ∧ type_of% @fld64_2 ∧ type_of% @fld64_3 ∧ type_of% @fld64_4 ∧ type_of% @fld64_5 ∧ type_of% @fld64_6 ∧ type_of% @fld64_7 ∧ type_of% @flds64 ∧ type_of% @ty64 ∧ type_of% @zero64 ∧ type_of% @Tryz.underlying66 ∧ type_of% @elt66 ∧ type_of% @fld66_0 ∧ type_of% @fld66_1 ∧ type_of% @flds66 ∧ type_of% @ty66 ∧ type_of% @zero66 ∧ type_of% @Tryz.ntmps13 := ⟨@Tryz.underlying3, @ty3, @zero3, @Tryz.underlying5, @ty5, @zero5, @Tryz.underlying9, @ty9, @zero9, @Tryz.underlying25, @ty25, @zero25, @Tryz.underlying30, @einf30, @elt30, @ty30, @zero30, @Tryz.underlying36, @ty36, @zero36, @Tryz.underlying37, @einf37, @elt37, @ty37, @zero37, @Tryz.underlying39, @elt39, @fld39_0, @fld39_1, @fld39_2, @flds39, @ty39, @zero39, @Tryz.underlying64, @elt64, @fld64_0, @fld64_1, @fld64_2, @fld64_3, @fld64_4, @fld64_5, @fld64_6, @fld64_7, @flds64, @ty64, @zero64, @Tryz.underlying66, @elt66, @fld66_0, @fld66_1, @flds66, @ty66, @zero66, @Tryz.ntmps13⟩
variable {H : Mem} {K : Value → Mem → Prop}

/-- A tally's cells. -/
def tc (cs : List Int) (rest : List Value) : List Value := cs.map (.int .i64 ·) ++ rest
structure Tal (cs : List Int) (rest : List Value) : Prop where
  l : cs.length = 12
  r : rest.length = 4
  b : ∀ c ∈ cs, 0 ≤ c ∧ c ≤ 4611686018427387904
def addAt (cs : List Int) (i : Nat) (n : Int) : List Int := cs.set i (sat (cs[i]?.getD 0) n)
theorem sat_b {c n : Int} (h : 0 ≤ c ∧ c ≤ 4611686018427387904) (hn : 0 ≤ n) : 0 ≤ sat c n ∧ sat c n ≤ 4611686018427387904 := by
  unfold sat; split <;> omega
theorem Tal.get {cs : List Int} {rest : List Value} (h : Tal cs rest) (i : Nat) (hi : i < 12) : 0 ≤ cs[i]?.getD 0 ∧ cs[i]?.getD 0 ≤ 4611686018427387904 := by
  have hl := h.l
  rw [List.getElem?_eq_getElem (by omega)]
  exact h.b _ (List.getElem_mem _)
theorem Tal.add {cs : List Int} {rest : List Value} (h : Tal cs rest) {i : Nat} (hi : i < 12) {n : Int} (hn : 0 ≤ n) : Tal (addAt cs i n) rest := by
  refine ⟨by simp [addAt, h.l], h.r, fun c hc => ?_⟩
  rcases List.mem_or_eq_of_mem_set hc with hc | rfl
  · exact h.b _ hc
  · exact sat_b (h.get i hi) hn
theorem tc_get {cs : List Int} {rest : List Value} (h : Tal cs rest) {i : Nat} (hi : i < 12) : (tc cs rest)[i]? = some (.int .i64 (cs[i]?.getD 0)) := by
  have hl := h.l
  unfold tc
  rw [List.getElem?_append_left (by simp; omega), List.getElem?_map, List.getElem?_eq_getElem (by omega)]; rfl
theorem tc_set {cs : List Int} {rest : List Value} (h : Tal cs rest) {i : Nat} (hi : i < 12) (n : Int) : (tc cs rest).set i (.int .i64 (sat (cs[i]?.getD 0) n)) = tc (addAt cs i n) rest := by
  have hl := h.l
  unfold tc addAt
  rw [List.set_append_left _ _ (by simp; omega), List.map_set]
theorem moreT_W {b : Nat} {cs : List Int} {rest : List Value} {i : Nat} {n : Int} (hb : H b = some ⟨true, 16, tc cs rest⟩) (ht : Tal cs rest) (hi : i < 12) (hn : 0 ≤ n)
    (h : K (.tuple #[]) (H.upd b ⟨true, 16, tc (addAt cs i n) rest⟩)) : InvW Tryz.prog 53 #[.pointer (some ⟨b, 0, none⟩), .int .i64 i, .int .i64 n] H K := by
  refine more_W hb hi (tc_get ht hi) (by omega) (ht.get i hi) hn ?_
  rw [tc_set ht hi]; exact h
def saidC (l : List (Int × Stz)) : List Value := l.flatMap fun x => .int .i64 x.1 :: x.2.cells
def putOf (z : Stz) : List UInt8 := if errS z = 0 then putL z else []
def noteOne (cs : List Int) (z : Stz) : List Int :=
  let c := addAt cs 3 (sizeF (putOf z))
  if kindP z.k = -1 then c else addAt c (kindP z.k).toNat 1
def noteL (cs : List Int) (e : Int) (l : List (Int × Stz)) (nshut : Nat) : List Int :=
  (l.map (·.2)).foldl noteOne (addAt (addAt (if e = 0 then addAt cs 0 1 else addAt (addAt cs 0 1) 1 1) 2 l.length) 11 nshut)
theorem saidC_drop {l q : List (Int × Stz)} {i : Nat} {x : Int × Stz} (h : l.drop i = x :: q) : ((saidC l).drop (i * 9)).take 9 = .int .i64 x.1 :: x.2.cells := by
  have key : ∀ (l : List (Int × Stz)) (i : Nat), (saidC l).drop (i * 9) = saidC (l.drop i) := by
    intro l
    induction l with
    | nil => intro i; simp [saidC]
    | cons y l ih =>
      intro i
      cases i with
      | zero => simp
      | succ i =>
        rw [List.drop_succ_cons, ← ih i]
        show ((.int .i64 y.1 :: y.2.cells) ++ saidC l).drop ((i + 1) * 9) = _
        rw [show (i + 1) * 9 = 9 + i * 9 from by omega, ← List.drop_drop]
        rfl
  rw [key, h]
  rfl
theorem read_part {G : Mem} {ad : Addr} {n k m : Nat} {vs ws : List Value} (h : G.read ad n = some vs) (hk : k + m ≤ n) (hw : (vs.drop k).take m = ws) : G.read (ad.add k) m = some ws := by
  obtain ⟨b, o, B, rfl, hB, hle, hcs⟩ := read_parts h
  rw [show (⟨b, o, none⟩ : Addr).add k = ⟨b, o + k, none⟩ from by simp [Addr.add]]
  simp only [Mem.read, hB, Option.bind_some, Blk.read]
  rw [if_pos (by omega), ← hw, hcs, List.drop_take, List.take_take, List.drop_drop, Nat.min_eq_left (by omega)]
theorem foldl_tal {rest : List Value} : ∀ (l : List Stz) {cs : List Int}, Tal cs rest → Tal (l.foldl noteOne cs) rest
  | [], _, h => h
  | z :: l, cs, h => foldl_tal l (by
    unfold noteOne
    have h1 := h.add (i := 3) (by decide) (n := sizeF (putOf z)) (by unfold sizeF; split <;> omega)
    dsimp only
    split
    · exact h1
    · rename_i hk
      refine h1.add ?_ (by decide)
      unfold kindP at hk ⊢
      repeat' split
      all_goals first | decide | (exfalso; revert hk; simp_all))
theorem kindP_cases (k : Int) : kindP k = -1 ∨ ∃ j : Nat, j < 12 ∧ kindP k = j := by
  unfold kindP
  repeat' split
  · exact .inr ⟨4, by decide, rfl⟩
  · exact .inr ⟨5, by decide, rfl⟩
  · exact .inr ⟨6, by decide, rfl⟩
  · exact .inr ⟨7, by decide, rfl⟩
  · exact .inr ⟨8, by decide, rfl⟩
  · exact .inr ⟨9, by decide, rfl⟩
  · exact .inr ⟨9, by decide, rfl⟩
  · exact .inr ⟨10, by decide, rfl⟩
  · exact .inl rfl
theorem note_W {b : Nat} {cs : List Int} {rest : List Value} {e : Int} {l : List (Int × Stz)} {sv : Value} {sa : Option Addr} {ns sc : Nat} (hB : Base H) (hb : H b = none) (ht : Tal cs rest)
    (hs : ∀ x ∈ l, x.2.small) (hsv : SrcV 9 H sv l.length (saidC l)) (hl : l.length < 4294967281)
    (h : K (.tuple #[]) (H.upd b ⟨true, 16, tc (noteL cs e l ns) rest⟩)) : InvW Tryz.prog 13 #[.pointer (some ⟨b, 0, none⟩), .agg #[.int .i64 e, sv, .slice sa ns sc]] (H.upd b ⟨true, 16, tc cs rest⟩) K := by
  refine InvW.weak ?_
  obtain ⟨a, c, rfl⟩ : ∃ a c, sv = .slice a l.length c := by
    rcases hsv with ⟨h0, _, a, c, rfl⟩ | ⟨ad, c, rfl, _⟩
    · rw [h0]; exact ⟨a, c, rfl⟩
    · exact ⟨_, c, rfl⟩
  (refine invW_of_pw Tryz.func13 rfl rfl (by decide +kernel) (by simp [Tryz.f13]) ?_); simp -dsimp -failIfUnchanged (maxSteps := 2000000) (disch := omega) only [VA, if_true_, if_false_, reduceIte, Nat.reduceEqDiff, Nat.reduceAdd, Nat.reduceMul, Nat.reduceSub, Int.reduceToNat, Int.reduceAdd, Int.reduceNeg, Int.reduceSub, Int.reduceMul, Int.reduceBEq, Int.reduceBNe, Int.reduceLT, Int.reduceLE, Int.reduceEq, beq_self_eq_true, Int.reducePow, Nat.reducePow, Int.reduceDiv, Nat.reduceLeDiff, reduceCtorEq, Tryz.f13, Tryz.results13, bC190, Option.isNone_some]
  intro n hn
  have hne : n ≠ b := by rintro rfl; simp [Mem.upd] at hn
  have hn' : H n = none := by simpa [Mem.upd, hne] using hn
  have hne' : b ≠ n := Ne.symm hne
  have hcm : ∀ X Y, (H.upd b X).upd n Y = (H.upd n Y).upd b X := fun X Y => upd_comm hne
  rw [hcm]
  simp -dsimp -failIfUnchanged (maxSteps := 2000000) (disch := omega) only [VA, if_true_, if_false_, reduceIte, Nat.reduceEqDiff, Nat.reduceAdd, Nat.reduceMul, Nat.reduceSub, Int.reduceToNat, Int.reduceAdd, Int.reduceNeg, Int.reduceSub, Int.reduceMul, Int.reduceBEq, Int.reduceBNe, Int.reduceLT, Int.reduceLE, Int.reduceEq, beq_self_eq_true, Int.reducePow, Nat.reducePow, Int.reduceDiv, Nat.reduceLeDiff, reduceCtorEq, Tryz.f13, Tryz.results13, bC190, Option.isNone_some]
  refine moreT_W (i := 0) (if_pos rfl) ht (by decide) (by decide) ?_
  have ht1 := ht.add (i := 0) (by decide) (n := 1) (by decide)
  unfold noteL at h
  cases k1 : (e == 0)
  case' false =>
    have k2 := beq_eq_false_iff_ne.1 k1
    have ht2 := ht1.add (i := 1) (by decide) (n := 1) (by decide)
    simp -dsimp -failIfUnchanged (maxSteps := 2000000) (disch := omega) only [VA, if_true_, if_false_, reduceIte, Nat.reduceEqDiff, Nat.reduceAdd, Nat.reduceMul, Nat.reduceSub, Int.reduceToNat, Int.reduceAdd, Int.reduceNeg, Int.reduceSub, Int.reduceMul, Int.reduceBEq, Int.reduceBNe, Int.reduceLT, Int.reduceLE, Int.reduceEq, beq_self_eq_true, Int.reducePow, Nat.reducePow, Int.reduceDiv, Nat.reduceLeDiff, reduceCtorEq, Tryz.f13, Tryz.results13, bC190, k1, _root_.bne, upd_same]
    refine moreT_W (i := 1) (if_pos rfl) ht1 (by decide) (by decide) ?_
    simp -dsimp -failIfUnchanged (maxSteps := 2000000) (disch := omega) only [VA, if_true_, if_false_, reduceIte, Nat.reduceEqDiff, Nat.reduceAdd, Nat.reduceMul, Nat.reduceSub, Int.reduceToNat, Int.reduceAdd, Int.reduceNeg, Int.reduceSub, Int.reduceMul, Int.reduceBEq, Int.reduceBNe, Int.reduceLT, Int.reduceLE, Int.reduceEq, beq_self_eq_true, Int.reducePow, Nat.reducePow, Int.reduceDiv, Nat.reduceLeDiff, reduceCtorEq, Tryz.f13, Tryz.results13, bC190, upd_same]
    refine moreT_W (i := 2) (if_pos rfl) ht2 (by decide) (by omega) ?_
    simp -dsimp -failIfUnchanged (maxSteps := 2000000) (disch := omega) only [VA, if_true_, if_false_, reduceIte, Nat.reduceEqDiff, Nat.reduceAdd, Nat.reduceMul, Nat.reduceSub, Int.reduceToNat, Int.reduceAdd, Int.reduceNeg, Int.reduceSub, Int.reduceMul, Int.reduceBEq, Int.reduceBNe, Int.reduceLT, Int.reduceLE, Int.reduceEq, beq_self_eq_true, Int.reducePow, Nat.reducePow, Int.reduceDiv, Nat.reduceLeDiff, reduceCtorEq, Tryz.f13, Tryz.results13, bC190, upd_same]
    have ht3 := ht2.add (i := 2) (by decide) (n := l.length) (by omega)
    refine moreT_W (i := 11) (if_pos rfl) ht3 (by decide) (by omega) ?_
    simp -dsimp -failIfUnchanged (maxSteps := 2000000) (disch := omega) only [VA, if_true_, if_false_, reduceIte, Nat.reduceEqDiff, Nat.reduceAdd, Nat.reduceMul, Nat.reduceSub, Int.reduceToNat, Int.reduceAdd, Int.reduceNeg, Int.reduceSub, Int.reduceMul, Int.reduceBEq, Int.reduceBNe, Int.reduceLT, Int.reduceLE, Int.reduceEq, beq_self_eq_true, Int.reducePow, Nat.reducePow, Int.reduceDiv, Nat.reduceLeDiff, reduceCtorEq, Tryz.f13, Tryz.results13, bC190, upd_same]
    have ht4 := ht3.add (i := 11) (by decide) (n := ns) (by omega)
    rw [if_neg k2] at h
    generalize addAt (addAt (addAt (addAt cs 0 1) 1 1) 2 l.length) 11 ns = c0 at h ht4 ⊢
  case' true =>
    have k2 := eq_of_beq k1
    simp -dsimp -failIfUnchanged (maxSteps := 2000000) (disch := omega) only [VA, if_true_, if_false_, reduceIte, Nat.reduceEqDiff, Nat.reduceAdd, Nat.reduceMul, Nat.reduceSub, Int.reduceToNat, Int.reduceAdd, Int.reduceNeg, Int.reduceSub, Int.reduceMul, Int.reduceBEq, Int.reduceBNe, Int.reduceLT, Int.reduceLE, Int.reduceEq, beq_self_eq_true, Int.reducePow, Nat.reducePow, Int.reduceDiv, Nat.reduceLeDiff, reduceCtorEq, Tryz.f13, Tryz.results13, bC190, k1, _root_.bne, upd_same]
    refine moreT_W (i := 2) (if_pos rfl) ht1 (by decide) (by omega) ?_
    simp -dsimp -failIfUnchanged (maxSteps := 2000000) (disch := omega) only [VA, if_true_, if_false_, reduceIte, Nat.reduceEqDiff, Nat.reduceAdd, Nat.reduceMul, Nat.reduceSub, Int.reduceToNat, Int.reduceAdd, Int.reduceNeg, Int.reduceSub, Int.reduceMul, Int.reduceBEq, Int.reduceBNe, Int.reduceLT, Int.reduceLE, Int.reduceEq, beq_self_eq_true, Int.reducePow, Nat.reducePow, Int.reduceDiv, Nat.reduceLeDiff, reduceCtorEq, Tryz.f13, Tryz.results13, bC190, upd_same]
    have ht3 := ht1.add (i := 2) (by decide) (n := l.length) (by omega)
    refine moreT_W (i := 11) (if_pos rfl) ht3 (by decide) (by omega) ?_
    simp -dsimp -failIfUnchanged (maxSteps := 2000000) (disch := omega) only [VA, if_true_, if_false_, reduceIte, Nat.reduceEqDiff, Nat.reduceAdd, Nat.reduceMul, Nat.reduceSub, Int.reduceToNat, Int.reduceAdd, Int.reduceNeg, Int.reduceSub, Int.reduceMul, Int.reduceBEq, Int.reduceBNe, Int.reduceLT, Int.reduceLE, Int.reduceEq, beq_self_eq_true, Int.reducePow, Nat.reducePow, Int.reduceDiv, Nat.reduceLeDiff, reduceCtorEq, Tryz.f13, Tryz.results13, bC190, upd_same]
    have ht4 := ht3.add (i := 11) (by decide) (n := ns) (by omega)
    rw [if_pos k2] at h
    generalize addAt (addAt (addAt cs 0 1) 2 l.length) 11 ns = c0 at h ht4 ⊢
  all_goals
    have hM0 : H.le (H.upd n ⟨true, 3, [.int .i64 e, .slice a l.length c, .slice sa ns sc]⟩) := Mem.le_upd hn' _
    have hM : ∀ X, H.le ((H.upd n ⟨true, 3, [.int .i64 e, .slice a l.length c, .slice sa ns sc]⟩).upd b X) := fun X => Mem.le_upd' hM0 (by simpa [Mem.upd, hne'] using hb) _
    refine loop_enter (loop_ind ?_ (fun (i : Nat) e1 H1 => e1.ds = [] ∧ e1 0 = .pointer (some ⟨b, 0, none⟩) ∧ e1 29 = .slice a l.length c ∧ e1 30 = .int .i64 l.length ∧ e1 31 = .int .i64 i ∧ i ≤ l.length ∧
        H1 = (H.upd n ⟨true, 3, [.int .i64 e, .slice a l.length c, .slice sa ns sc]⟩).upd b ⟨true, 16, tc (((l.take i).map (·.2)).foldl noteOne c0) rest⟩) (fun i => l.length - i) ?_ 0 _ _ ?_)
    · decide +kernel
    rotate_left
    · simp -dsimp -failIfUnchanged (maxSteps := 2000000) (disch := omega) only [VA, if_true_, if_false_, reduceIte, Nat.reduceEqDiff, Nat.reduceAdd, Nat.reduceMul, Nat.reduceSub, Int.reduceToNat, Int.reduceAdd, Int.reduceNeg, Int.reduceSub, Int.reduceMul, Int.reduceBEq, Int.reduceBNe, Int.reduceLT, Int.reduceLE, Int.reduceEq, beq_self_eq_true, Int.reducePow, Nat.reducePow, Int.reduceDiv, Nat.reduceLeDiff, reduceCtorEq, Tryz.f13, Tryz.results13, bC190]
      refine ⟨trivial, trivial, trivial, trivial, ?_, Nat.zero_le _, ?_⟩ <;> first | trivial | rfl
    rintro i e1 H1 ⟨d0, d1, d2, d3, d4, hi, rfl⟩ ih
    by_cases hlt : i < l.length
    · have q1 : decide ((i : Int) < l.length) = true := decide_eq_true (by omega)
      obtain ⟨x, q, hx⟩ : ∃ x q, l.drop i = x :: q := by
        cases hd : l.drop i with
        | nil => have := congrArg List.length hd; simp at this; omega
        | cons x q => exact ⟨x, q, rfl⟩
      obtain ⟨xi, z⟩ := x
      obtain ⟨ad, rfl, hrd0⟩ : ∃ ad, a = some ad ∧ H.read ad (l.length * 9) = some (saidC l) := by
        rcases hsv with ⟨h0, _⟩ | ⟨ad, c', hv, hr⟩
        · omega
        · cases hv; exact ⟨ad, rfl, hr⟩
      have hrd := read_le (hM ⟨true, 16, tc (((l.take i).map (·.2)).foldl noteOne c0) rest⟩) (read_part hrd0 (k := i * 9) (m := 9) (by omega) (saidC_drop hx))
      have hxs : l[i]? = some (xi, z) := by have := congrArg (·[0]?) hx; simpa using this
      have hz : z.small := hs _ (List.mem_of_getElem? hxs)
      have htk : ((l.take (i + 1)).map (·.2)).foldl noteOne c0 = noteOne (((l.take i).map (·.2)).foldl noteOne c0) z := by
        rw [List.take_add_one, hxs]; simp
      have htt := foldl_tal ((l.take i).map (·.2)) ht4
      generalize ((l.take i).map (·.2)).foldl noteOne c0 = ci at hrd htk htt ⊢
      unfold Stz.cells at hrd
      simp -dsimp -failIfUnchanged (maxSteps := 2000000) (disch := omega) only [VA, if_true_, if_false_, reduceIte, Nat.reduceEqDiff, Nat.reduceAdd, Nat.reduceMul, Nat.reduceSub, Int.reduceToNat, Int.reduceAdd, Int.reduceNeg, Int.reduceSub, Int.reduceMul, Int.reduceBEq, Int.reduceBNe, Int.reduceLT, Int.reduceLE, Int.reduceEq, beq_self_eq_true, Int.reducePow, Nat.reducePow, Int.reduceDiv, Nat.reduceLeDiff, reduceCtorEq, Tryz.f13, Tryz.results13, bC190, d0, d1, d2, d3, d4, q1, hrd, Int.toNat_natCast]
      intro m hm
      have hmb : m ≠ b := by rintro rfl; simp [Mem.upd] at hm
      have hmb' := Ne.symm hmb
      have hH5 : ∀ Y, H.le (((H.upd n ⟨true, 3, [.int .i64 e, .slice (some ad) l.length c, .slice sa ns sc]⟩).upd b ⟨true, 16, tc ci rest⟩).upd m Y) := fun Y => Mem.le_upd' (hM _) hm _
      simp -dsimp -failIfUnchanged (maxSteps := 2000000) (disch := omega) only [VA, if_true_, if_false_, reduceIte, Nat.reduceEqDiff, Nat.reduceAdd, Nat.reduceMul, Nat.reduceSub, Int.reduceToNat, Int.reduceAdd, Int.reduceNeg, Int.reduceSub, Int.reduceMul, Int.reduceBEq, Int.reduceBNe, Int.reduceLT, Int.reduceLE, Int.reduceEq, beq_self_eq_true, Int.reducePow, Nat.reducePow, Int.reduceDiv, Nat.reduceLeDiff, reduceCtorEq, Tryz.f13, Tryz.results13, bC190, d0, d1, d2, d3, d4, q1, hrd, Int.toNat_natCast]
      refine put_W (z := z) (hB.le (hH5 _)) hz ?_
      simp -dsimp -failIfUnchanged (maxSteps := 2000000) (disch := omega) only [VA, if_true_, if_false_, reduceIte, Nat.reduceEqDiff, Nat.reduceAdd, Nat.reduceMul, Nat.reduceSub, Int.reduceToNat, Int.reduceAdd, Int.reduceNeg, Int.reduceSub, Int.reduceMul, Int.reduceBEq, Int.reduceBNe, Int.reduceLT, Int.reduceLE, Int.reduceEq, beq_self_eq_true, Int.reducePow, Nat.reducePow, Int.reduceDiv, Nat.reduceLeDiff, reduceCtorEq, Tryz.f13, Tryz.results13, bC190, d0, d1, d2, d3, d4, q1, hrd, Int.toNat_natCast]
      refine size_W (s := putOf z) ?_
      rw [upd_comm hmb]
      simp -dsimp -failIfUnchanged (maxSteps := 2000000) (disch := omega) only [VA, if_true_, if_false_, reduceIte, Nat.reduceEqDiff, Nat.reduceAdd, Nat.reduceMul, Nat.reduceSub, Int.reduceToNat, Int.reduceAdd, Int.reduceNeg, Int.reduceSub, Int.reduceMul, Int.reduceBEq, Int.reduceBNe, Int.reduceLT, Int.reduceLE, Int.reduceEq, beq_self_eq_true, Int.reducePow, Nat.reducePow, Int.reduceDiv, Nat.reduceLeDiff, reduceCtorEq, Tryz.f13, Tryz.results13, bC190, d0, d1, d2, d3, d4, q1, Int.toNat_natCast]
      have hsz0 : 0 ≤ sizeF (putOf z) := by unfold sizeF; split <;> omega
      refine moreT_W (i := 3) (if_pos rfl) htt (by decide) hsz0 ?_
      have ht5 := htt.add (i := 3) (by decide) hsz0
      simp -dsimp -failIfUnchanged (maxSteps := 2000000) (disch := omega) only [VA, if_true_, if_false_, reduceIte, Nat.reduceEqDiff, Nat.reduceAdd, Nat.reduceMul, Nat.reduceSub, Int.reduceToNat, Int.reduceAdd, Int.reduceNeg, Int.reduceSub, Int.reduceMul, Int.reduceBEq, Int.reduceBNe, Int.reduceLT, Int.reduceLE, Int.reduceEq, beq_self_eq_true, Int.reducePow, Nat.reducePow, Int.reduceDiv, Nat.reduceLeDiff, reduceCtorEq, Tryz.f13, Tryz.results13, bC190, d0, d1, d2, d3, d4, q1, Int.toNat_natCast, upd_same]
      refine kind_W ?_
      have hmle : ∀ X Y, ((H.upd n ⟨true, 3, [.int .i64 e, .slice (some ad) l.length c, .slice sa ns sc]⟩).upd b X).le (((H.upd n ⟨true, 3, [.int .i64 e, .slice (some ad) l.length c, .slice sa ns sc]⟩).upd m Y).upd b X) := fun X Y => by
        rw [← upd_comm hmb]; exact Mem.le_upd (by simpa [Mem.upd, hmb] using hm) _
      rcases kindP_cases z.k with hk | ⟨j, hj, hk⟩
      · simp -dsimp -failIfUnchanged (maxSteps := 2000000) (disch := omega) only [VA, if_true_, if_false_, reduceIte, Nat.reduceEqDiff, Nat.reduceAdd, Nat.reduceMul, Nat.reduceSub, Int.reduceToNat, Int.reduceAdd, Int.reduceNeg, Int.reduceSub, Int.reduceMul, Int.reduceBEq, Int.reduceBNe, Int.reduceLT, Int.reduceLE, Int.reduceEq, beq_self_eq_true, Int.reducePow, Nat.reducePow, Int.reduceDiv, Nat.reduceLeDiff, reduceCtorEq, Tryz.f13, Tryz.results13, bC190, d0, d1, d2, d3, d4, q1, hk, _root_.bne]
        refine LoopW.from (hmle _ _) (ih (i + 1) _ _ ?_ (by omega))
        simp -dsimp -failIfUnchanged (maxSteps := 2000000) (disch := omega) only [VA, if_true_, if_false_, reduceIte, Nat.reduceEqDiff, Nat.reduceAdd, Nat.reduceMul, Nat.reduceSub, Int.reduceToNat, Int.reduceAdd, Int.reduceNeg, Int.reduceSub, Int.reduceMul, Int.reduceBEq, Int.reduceBNe, Int.reduceLT, Int.reduceLE, Int.reduceEq, beq_self_eq_true, Int.reducePow, Nat.reducePow, Int.reduceDiv, Nat.reduceLeDiff, reduceCtorEq, Tryz.f13, Tryz.results13, bC190, d0, d1, d2, d3, d4]
        refine ⟨trivial, trivial, trivial, trivial, by simp, by omega, ?_⟩
        rw [htk]; unfold noteOne; simp only [hk, if_true]
      · have hk1 : ((j : Int) == -1) = false := beq_eq_false_iff_ne.2 (by omega)
        simp -dsimp -failIfUnchanged (maxSteps := 2000000) (disch := omega) only [VA, if_true_, if_false_, reduceIte, Nat.reduceEqDiff, Nat.reduceAdd, Nat.reduceMul, Nat.reduceSub, Int.reduceToNat, Int.reduceAdd, Int.reduceNeg, Int.reduceSub, Int.reduceMul, Int.reduceBEq, Int.reduceBNe, Int.reduceLT, Int.reduceLE, Int.reduceEq, beq_self_eq_true, Int.reducePow, Nat.reducePow, Int.reduceDiv, Nat.reduceLeDiff, reduceCtorEq, Tryz.f13, Tryz.results13, bC190, d0, d1, d2, d3, d4, q1, hk, hk1, _root_.bne]
        refine moreT_W (i := j) (if_pos rfl) ht5 hj (by decide) ?_
        simp -dsimp -failIfUnchanged (maxSteps := 2000000) (disch := omega) only [VA, if_true_, if_false_, reduceIte, Nat.reduceEqDiff, Nat.reduceAdd, Nat.reduceMul, Nat.reduceSub, Int.reduceToNat, Int.reduceAdd, Int.reduceNeg, Int.reduceSub, Int.reduceMul, Int.reduceBEq, Int.reduceBNe, Int.reduceLT, Int.reduceLE, Int.reduceEq, beq_self_eq_true, Int.reducePow, Nat.reducePow, Int.reduceDiv, Nat.reduceLeDiff, reduceCtorEq, Tryz.f13, Tryz.results13, bC190, d0, d1, d2, d3, d4, q1, upd_same]
        refine LoopW.from (hmle _ _) (ih (i + 1) _ _ ?_ (by omega))
        simp -dsimp -failIfUnchanged (maxSteps := 2000000) (disch := omega) only [VA, if_true_, if_false_, reduceIte, Nat.reduceEqDiff, Nat.reduceAdd, Nat.reduceMul, Nat.reduceSub, Int.reduceToNat, Int.reduceAdd, Int.reduceNeg, Int.reduceSub, Int.reduceMul, Int.reduceBEq, Int.reduceBNe, Int.reduceLT, Int.reduceLE, Int.reduceEq, beq_self_eq_true, Int.reducePow, Nat.reducePow, Int.reduceDiv, Nat.reduceLeDiff, reduceCtorEq, Tryz.f13, Tryz.results13, bC190, d0, d1, d2, d3, d4]
        refine ⟨trivial, trivial, trivial, trivial, by simp, by omega, ?_⟩
        rw [htk]; unfold noteOne; dsimp only; rw [if_neg (by rw [hk]; omega), hk]; rfl
    · have q1 : decide ((i : Int) < l.length) = false := decide_eq_false (by omega)
      obtain rfl : i = l.length := by omega
      simp -dsimp -failIfUnchanged (maxSteps := 2000000) (disch := omega) only [VA, if_true_, if_false_, reduceIte, Nat.reduceEqDiff, Nat.reduceAdd, Nat.reduceMul, Nat.reduceSub, Int.reduceToNat, Int.reduceAdd, Int.reduceNeg, Int.reduceSub, Int.reduceMul, Int.reduceBEq, Int.reduceBNe, Int.reduceLT, Int.reduceLE, Int.reduceEq, beq_self_eq_true, Int.reducePow, Nat.reducePow, Int.reduceDiv, Nat.reduceLeDiff, reduceCtorEq, Tryz.f13, Tryz.results13, bC190, d0, d1, d2, d3, d4, q1]
      rw [List.take_length]
      refine ⟨_, ?_, h⟩
      rw [← hcm]
      exact Mem.le_upd (by simpa [Mem.upd, hne] using hn') _
end Go.Proofs.YtgkolnknobgcmaaGreat
end
section
namespace Go.Proofs.YtgkolnknobgcmaaGreat
open Go Go.Proofs.YtgkolnknobgcmaaGreatV Go.Shelf
set_option maxRecDepth 20000
set_option linter.unusedSimpArgs false
set_option linter.unusedVariables false
set_option maxHeartbeats 4000000
theorem bC200 : type_of% @Tryz.underlying48 ∧ type_of% @einf48 ∧ type_of% @elt48 ∧ type_of% @ty48 ∧ type_of% @zero48 ∧ type_of% @Tryz.ntmps20 := ⟨@Tryz.underlying48, @einf48, @elt48, @ty48, @zero48, @Tryz.ntmps20⟩
theorem bC201 : type_of% @Tryz.underlying3 ∧ type_of% @ty3 ∧ type_of% @zero3 ∧ type_of% @Tryz.underlying9 ∧ type_of% @ty9 ∧ type_of% @zero9 ∧ type_of% @Tryz.underlying48 ∧ type_of% @einf48 ∧ type_of% @elt48 ∧ type_of% @ty48 ∧ type_of% @zero48 ∧ type_of% @Tryz.ntmps110 := ⟨@Tryz.underlying3, @ty3, @zero3, @Tryz.underlying9, @ty9, @zero9, @Tryz.underlying48, @einf48, @elt48, @ty48, @zero48, @Tryz.ntmps110⟩
variable {H : Mem} {K : Value → Mem → Prop}

def namesL : List (List UInt8) := [[115, 116, 101, 112, 115], [119, 114, 111, 110, 103], [115, 97, 105, 100], [98, 121, 116, 101, 115], [103, 114, 97, 110, 116, 101, 100], [114, 101, 102, 117, 115, 101, 100], [115, 101, 101, 110], [103, 111, 110, 101], [115, 110, 97, 112, 115], [114, 111, 115, 116, 101, 114, 115], [110, 111, 116, 101, 115], [115, 104, 117, 116]]
def namesC : List Value := namesL.map fun s => .string (bs s)
theorem names_W (h : ∀ x, H x = none → K (.slice (some ⟨x, 0, none⟩) 12 12) (H.upd x ⟨true, 12, namesC⟩)) : InvW Tryz.prog 20 #[] H K := by
  (refine invW_of_pw Tryz.func20 rfl rfl (by decide +kernel) (by simp [Tryz.f20]) ?_); simp -dsimp -failIfUnchanged (maxSteps := 2000000) (disch := omega) only [VA, if_true_, if_false_, reduceIte, Nat.reduceEqDiff, Nat.reduceAdd, Nat.reduceMul, Nat.reduceSub, Int.reduceToNat, Int.reduceAdd, Int.reduceNeg, Int.reduceSub, Int.reduceMul, Int.reduceBEq, Int.reduceBNe, Int.reduceLT, Int.reduceLE, Int.reduceEq, beq_self_eq_true, Int.reducePow, Nat.reducePow, Int.reduceDiv, Nat.reduceLeDiff, reduceCtorEq, Tryz.f20, Tryz.results20, bC200]
  refine semW_build ?_
  simp -dsimp -failIfUnchanged (maxSteps := 2000000) (disch := omega) only [VA, if_true_, if_false_, reduceIte, Nat.reduceEqDiff, Nat.reduceAdd, Nat.reduceMul, Nat.reduceSub, Int.reduceToNat, Int.reduceAdd, Int.reduceNeg, Int.reduceSub, Int.reduceMul, Int.reduceBEq, Int.reduceBNe, Int.reduceLT, Int.reduceLE, Int.reduceEq, beq_self_eq_true, Int.reducePow, Nat.reducePow, Int.reduceDiv, Nat.reduceLeDiff, reduceCtorEq, Tryz.f20, Tryz.results20, bC200]
  refine build_W (cs := namesC) einf48 rfl (by decide) ?_ fun x hx => ?_
  · simp -dsimp -failIfUnchanged (maxSteps := 2000000) (disch := omega) only [VA, if_true_, if_false_, reduceIte, Nat.reduceEqDiff, Nat.reduceAdd, Nat.reduceMul, Nat.reduceSub, Int.reduceToNat, Int.reduceAdd, Int.reduceNeg, Int.reduceSub, Int.reduceMul, Int.reduceBEq, Int.reduceBNe, Int.reduceLT, Int.reduceLE, Int.reduceEq, beq_self_eq_true, Int.reducePow, Nat.reducePow, Int.reduceDiv, Nat.reduceLeDiff, reduceCtorEq, Tryz.f20, Tryz.results20, bC200, zerosL]
    rfl
  simp -dsimp -failIfUnchanged (maxSteps := 2000000) (disch := omega) only [VA, if_true_, if_false_, reduceIte, Nat.reduceEqDiff, Nat.reduceAdd, Nat.reduceMul, Nat.reduceSub, Int.reduceToNat, Int.reduceAdd, Int.reduceNeg, Int.reduceSub, Int.reduceMul, Int.reduceBEq, Int.reduceBNe, Int.reduceLT, Int.reduceLE, Int.reduceEq, beq_self_eq_true, Int.reducePow, Nat.reducePow, Int.reduceDiv, Nat.reduceLeDiff, reduceCtorEq, Tryz.f20, Tryz.results20, bC200]
  exact h x hx
/-- Where a text stands in a list, or -1. -/
def placeL : List (List UInt8) → List UInt8 → Int
  | [], _ => -1
  | x :: l, s => if s = x then 0 else if placeL l s = -1 then -1 else placeL l s + 1
theorem placeL_at : ∀ (l q : List (List UInt8)) (i : Nat) (x : List UInt8), l.drop i = x :: q → (∀ y ∈ l.take i, x ≠ y) → placeL l x = i
  | [], q, i, x, h, _ => by simp at h
  | y :: l, q, 0, x, h, _ => by
    simp only [List.drop_zero, List.cons.injEq] at h
    rw [h.1]; simp [placeL]
  | y :: l, q, i + 1, x, h, hn => by
    have h1 := placeL_at l q i x (by simpa using h) (fun z hz => hn z (by simp [hz]))
    have h2 := hn y (by simp)
    simp only [placeL, if_neg h2, h1]
    rw [if_neg (by omega)]; omega
theorem placeL_no : ∀ (l : List (List UInt8)) (s : List UInt8), (∀ y ∈ l, s ≠ y) → placeL l s = -1
  | [], _, _ => rfl
  | y :: l, s, h => by
    have h1 := placeL_no l s (fun z hz => h z (by simp [hz]))
    simp only [placeL, if_neg (h y (by simp)), h1, if_true]
theorem index_W {v : Value} {l : List (List UInt8)} {s : List UInt8} (hv : SrcV 1 H v l.length (l.map fun s => .string (bs s))) (hl : l.length < 4294967281) (h : K (.int .i64 (placeL l s)) H) : InvW Tryz.prog 110 #[v, .string (bs s)] H K := by
  obtain ⟨a, c, rfl⟩ : ∃ a c, v = .slice a l.length c := by
    rcases hv with ⟨h0, _, a, c, rfl⟩ | ⟨ad, c, rfl, _⟩
    · rw [h0]; exact ⟨a, c, rfl⟩
    · exact ⟨_, c, rfl⟩
  (refine invW_of_pw Tryz.func110 rfl rfl (by decide +kernel) (by simp [Tryz.f110]) ?_); simp -dsimp -failIfUnchanged (maxSteps := 2000000) (disch := omega) only [VA, if_true_, if_false_, reduceIte, Nat.reduceEqDiff, Nat.reduceAdd, Nat.reduceMul, Nat.reduceSub, Int.reduceToNat, Int.reduceAdd, Int.reduceNeg, Int.reduceSub, Int.reduceMul, Int.reduceBEq, Int.reduceBNe, Int.reduceLT, Int.reduceLE, Int.reduceEq, beq_self_eq_true, Int.reducePow, Nat.reducePow, Int.reduceDiv, Nat.reduceLeDiff, reduceCtorEq, Tryz.f110, Tryz.results110, bC201]
  refine loop_enter (loop_ind ?_ (fun (i : Nat) e1 H1 => e1.ds = [] ∧ e1 0 = .slice a l.length c ∧ e1 1 = .string (bs s) ∧ e1 7 = .int .i64 l.length ∧ e1 8 = .int .i64 i ∧ i ≤ l.length ∧ (∀ y ∈ l.take i, s ≠ y) ∧ H1 = H) (fun i => l.length - i) ?_ 0 _ _ ?_)
  · decide +kernel
  rotate_left
  · simp -dsimp -failIfUnchanged (maxSteps := 2000000) (disch := omega) only [VA, if_true_, if_false_, reduceIte, Nat.reduceEqDiff, Nat.reduceAdd, Nat.reduceMul, Nat.reduceSub, Int.reduceToNat, Int.reduceAdd, Int.reduceNeg, Int.reduceSub, Int.reduceMul, Int.reduceBEq, Int.reduceBNe, Int.reduceLT, Int.reduceLE, Int.reduceEq, beq_self_eq_true, Int.reducePow, Nat.reducePow, Int.reduceDiv, Nat.reduceLeDiff, reduceCtorEq, Tryz.f110, Tryz.results110, bC201]
    refine ⟨trivial, trivial, trivial, trivial, ?_, Nat.zero_le _, by simp, trivial⟩ <;> first | trivial | rfl
  rintro i e1 H1 ⟨d0, d1, d2, d3, d4, hi, hno, rfl⟩ ih
  by_cases hlt : i < l.length
  · have q1 : decide ((i : Int) < l.length) = true := decide_eq_true (by omega)
    obtain ⟨x, q, hx⟩ : ∃ x q, l.drop i = x :: q := by
      cases hd : l.drop i with
      | nil => have := congrArg List.length hd; simp at this; omega
      | cons x q => exact ⟨x, q, rfl⟩
    obtain ⟨ad, rfl, hrd0⟩ : ∃ ad, a = some ad ∧ H1.read ad (l.length * 1) = some (l.map fun s => .string (bs s)) := by
      rcases hv with ⟨h0, _⟩ | ⟨ad, c', hv, hr⟩
      · omega
      · cases hv; exact ⟨ad, rfl, hr⟩
    have hrd := read_part hrd0 (k := i * 1) (m := 1) (ws := [.string (bs x)]) (by omega) (by rw [Nat.mul_one, ← List.map_drop, hx]; rfl)
    have hxs : l[i]? = some x := by have := congrArg (·[0]?) hx; simpa using this
    cases q2 : decide (s = x)
    · simp -dsimp -failIfUnchanged (maxSteps := 2000000) (disch := omega) only [VA, if_true_, if_false_, reduceIte, Nat.reduceEqDiff, Nat.reduceAdd, Nat.reduceMul, Nat.reduceSub, Int.reduceToNat, Int.reduceAdd, Int.reduceNeg, Int.reduceSub, Int.reduceMul, Int.reduceBEq, Int.reduceBNe, Int.reduceLT, Int.reduceLE, Int.reduceEq, beq_self_eq_true, Int.reducePow, Nat.reducePow, Int.reduceDiv, Nat.reduceLeDiff, reduceCtorEq, Tryz.f110, Tryz.results110, bC201, d0, d1, d2, d3, d4, q1, hrd, Int.toNat_natCast, q2]
      refine ih (i + 1) _ _ ?_ (by omega)
      simp -dsimp -failIfUnchanged (maxSteps := 2000000) (disch := omega) only [VA, if_true_, if_false_, reduceIte, Nat.reduceEqDiff, Nat.reduceAdd, Nat.reduceMul, Nat.reduceSub, Int.reduceToNat, Int.reduceAdd, Int.reduceNeg, Int.reduceSub, Int.reduceMul, Int.reduceBEq, Int.reduceBNe, Int.reduceLT, Int.reduceLE, Int.reduceEq, beq_self_eq_true, Int.reducePow, Nat.reducePow, Int.reduceDiv, Nat.reduceLeDiff, reduceCtorEq, Tryz.f110, Tryz.results110, bC201, d0, d1, d2, d3, d4]
      refine ⟨trivial, trivial, trivial, trivial, by simp, by omega, fun y hy => ?_, trivial⟩
      rw [List.take_add_one, hxs] at hy
      rcases List.mem_append.1 hy with hy | hy
      · exact hno y hy
      · simp at hy; subst hy; exact of_decide_eq_false q2
    · obtain rfl := of_decide_eq_true q2
      rw [placeL_at l q i s hx hno] at h
      simp -dsimp -failIfUnchanged (maxSteps := 2000000) (disch := omega) only [VA, if_true_, if_false_, reduceIte, Nat.reduceEqDiff, Nat.reduceAdd, Nat.reduceMul, Nat.reduceSub, Int.reduceToNat, Int.reduceAdd, Int.reduceNeg, Int.reduceSub, Int.reduceMul, Int.reduceBEq, Int.reduceBNe, Int.reduceLT, Int.reduceLE, Int.reduceEq, beq_self_eq_true, Int.reducePow, Nat.reducePow, Int.reduceDiv, Nat.reduceLeDiff, reduceCtorEq, Tryz.f110, Tryz.results110, bC201, d0, d1, d2, d3, d4, q1, hrd, Int.toNat_natCast, q2]
      exact h
  · have q1 : decide ((i : Int) < l.length) = false := decide_eq_false (by omega)
    obtain rfl : i = l.length := by omega
    rw [List.take_length] at hno
    rw [placeL_no l s hno] at h
    simp -dsimp -failIfUnchanged (maxSteps := 2000000) (disch := omega) only [VA, if_true_, if_false_, reduceIte, Nat.reduceEqDiff, Nat.reduceAdd, Nat.reduceMul, Nat.reduceSub, Int.reduceToNat, Int.reduceAdd, Int.reduceNeg, Int.reduceSub, Int.reduceMul, Int.reduceBEq, Int.reduceBNe, Int.reduceLT, Int.reduceLE, Int.reduceEq, beq_self_eq_true, Int.reducePow, Nat.reducePow, Int.reduceDiv, Nat.reduceLeDiff, reduceCtorEq, Tryz.f110, Tryz.results110, bC201, d0, d1, d2, d3, d4, q1]
    exact h
end Go.Proofs.YtgkolnknobgcmaaGreat
end
section
namespace Go.Proofs.YtgkolnknobgcmaaGreat
open Go Go.Proofs.YtgkolnknobgcmaaGreatV Go.Shelf
set_option maxRecDepth 20000
set_option linter.unusedSimpArgs false
set_option linter.unusedVariables false
set_option maxHeartbeats 4000000
theorem bC210 : type_of% @Tryz.underlying149 ∧ type_of% @elt149 ∧ type_of% @fld149_0 ∧ type_of% @fld149_1 ∧ type_of% @fld149_2 ∧ type_of% @flds149 ∧ type_of% @ty149 ∧ type_of% @zero149 ∧ type_of% @Tryz.ntmps12 := ⟨@Tryz.underlying149, @elt149, @fld149_0, @fld149_1, @fld149_2, @flds149, @ty149, @zero149, @Tryz.ntmps12⟩
theorem bC211 : type_of% @Tryz.underlying137 ∧ type_of% @elt137 ∧ type_of% @fld137_0 ∧ type_of% @fld137_1 ∧ type_of% @fld137_2 ∧ type_of% @flds137 ∧ type_of% @ty137 ∧ type_of% @zero137 ∧ type_of% @Tryz.underlying218 ∧ type_of% @ty218 ∧ type_of% @zero218 ∧ type_of% @Tryz.ntmps62 := ⟨@Tryz.underlying137, @elt137, @fld137_0, @fld137_1, @fld137_2, @flds137, @ty137, @zero137, @Tryz.underlying218, @ty218, @zero218, @Tryz.ntmps62⟩
theorem bC212 : type_of% @Tryz.underlying3 ∧ type_of% @ty3 ∧ type_of% @zero3 ∧ type_of% @Tryz.underlying9 ∧ type_of% @ty9 ∧ type_of% @zero9 ∧ type_of% @Tryz.underlying25 ∧ type_of% @ty25 ∧ type_of% @zero25 ∧ type_of% @Tryz.underlying46 ∧ type_of% @einf46 ∧ type_of% @elt46 ∧ type_of% @ty46 ∧ type_of% @zero46 ∧ type_of% @Tryz.underlying48 ∧ type_of% @einf48 ∧ type_of% @elt48 ∧ type_of% @ty48 ∧ type_of% @zero48 ∧ type_of% @Tryz.underlying52 ∧ type_of% @elt52 ∧ type_of% @fld52_0 ∧ type_of% @fld52_1 ∧ type_of% @flds52 ∧ type_of% @ty52 ∧ type_of% @zero52 ∧ type_of% @Tryz.underlying137 ∧ type_of% @elt137 ∧ type_of% @fld137_0 ∧ type_of% @fld137_1 ∧ type_of% @fld137_2 ∧ type_of% @flds137 ∧ type_of% @ty137 ∧ type_of% @zero137 ∧ type_of% @Tryz.underlying138 ∧ type_of% @elt138 ∧ type_of% @flds138 ∧ type_of% @ty138 ∧ type_of% @zero138 ∧ type_of% @Tryz.underlying149 ∧ type_of% @elt149 ∧ type_of% @fld149_0 ∧ type_of% @fld149_1 ∧ type_of% @fld149_2 ∧ type_of% @flds149 ∧ type_of% @ty149 ∧ type_of% @zero149 ∧ type_of% @Tryz.ntmps19 := ⟨@Tryz.underlying3, @ty3, @zero3, @Tryz.underlying9, @ty9, @zero9, @Tryz.underlying25, @ty25, @zero25, @Tryz.underlying46, @einf46, @elt46, @ty46, @zero46, @Tryz.underlying48, @einf48, @elt48, @ty48, @zero48, @Tryz.underlying52, @elt52, @fld52_0, @fld52_1, @flds52, @ty52, @zero52, @Tryz.underlying137, @elt137, @fld137_0, @fld137_1, @fld137_2, @flds137, @ty137, @zero137, @Tryz.underlying138, @elt138, @flds138, @ty138, @zero138, @Tryz.underlying149, @elt149, @fld149_0, @fld149_1, @fld149_2, @flds149, @ty149, @zero149, @Tryz.ntmps19⟩
variable {H : Mem} {K : Value → Mem → Prop}

/-- The other cells of a tally that has not listed its names. -/
def rest0 : List Value := [.int .u32 0, .int .i32 0, .int .u32 0, .slice none 0 0]
def zeros12 : List Int := [0, 0, 0, 0, 0, 0, 0, 0, 0, 0, 0, 0]
theorem tal0 : Tal zeros12 rest0 := ⟨rfl, rfl, by intro c hc; simp [zeros12] at hc; omega⟩
theorem new_W (h : ∀ b, H b = none → K (.pointer (some ⟨b, 0, none⟩)) (H.upd b ⟨true, 16, tc zeros12 rest0⟩)) : InvW Tryz.prog 12 #[] H K := by
  (refine invW_of_pw Tryz.func12 rfl rfl (by decide +kernel) (by simp [Tryz.f12]) ?_); simp -dsimp -failIfUnchanged (maxSteps := 2000000) (disch := omega) only [VA, if_true_, if_false_, reduceIte, Nat.reduceEqDiff, Nat.reduceAdd, Nat.reduceMul, Nat.reduceSub, Int.reduceToNat, Int.reduceAdd, Int.reduceNeg, Int.reduceSub, Int.reduceMul, Int.reduceBEq, Int.reduceBNe, Int.reduceLT, Int.reduceLE, Int.reduceEq, beq_self_eq_true, Int.reducePow, Nat.reducePow, Int.reduceDiv, Nat.reduceLeDiff, reduceCtorEq, Tryz.f12, Tryz.results12, bC210]
  intro n hn
  simp -dsimp -failIfUnchanged (maxSteps := 2000000) (disch := omega) only [VA, if_true_, if_false_, reduceIte, Nat.reduceEqDiff, Nat.reduceAdd, Nat.reduceMul, Nat.reduceSub, Int.reduceToNat, Int.reduceAdd, Int.reduceNeg, Int.reduceSub, Int.reduceMul, Int.reduceBEq, Int.reduceBNe, Int.reduceLT, Int.reduceLE, Int.reduceEq, beq_self_eq_true, Int.reducePow, Nat.reducePow, Int.reduceDiv, Nat.reduceLeDiff, reduceCtorEq, Tryz.f12, Tryz.results12, bC210]
  exact h n hn
theorem loadR_W {b i : Nat} {x : Int} (hr : H.read ⟨b, i, none⟩ 1 = some [.int .i64 x]) (h : K (.int .i64 x) H) : InvW Tryz.prog 62 #[.pointer (some ⟨b, i, none⟩)] H K := by
  (refine invW_of_pw Tryz.func62 rfl rfl (by decide +kernel) (by simp [Tryz.f62]) ?_); simp -dsimp -failIfUnchanged (maxSteps := 2000000) (disch := omega) only [VA, if_true_, if_false_, reduceIte, Nat.reduceEqDiff, Nat.reduceAdd, Nat.reduceMul, Nat.reduceSub, Int.reduceToNat, Int.reduceAdd, Int.reduceNeg, Int.reduceSub, Int.reduceMul, Int.reduceBEq, Int.reduceBNe, Int.reduceLT, Int.reduceLE, Int.reduceEq, beq_self_eq_true, Int.reducePow, Nat.reducePow, Int.reduceDiv, Nat.reduceLeDiff, reduceCtorEq, Tryz.f62, Tryz.results62, bC211]
  refine loadI_W hr ?_
  simp -dsimp -failIfUnchanged (maxSteps := 2000000) (disch := omega) only [VA, if_true_, if_false_, reduceIte, Nat.reduceEqDiff, Nat.reduceAdd, Nat.reduceMul, Nat.reduceSub, Int.reduceToNat, Int.reduceAdd, Int.reduceNeg, Int.reduceSub, Int.reduceMul, Int.reduceBEq, Int.reduceBNe, Int.reduceLT, Int.reduceLE, Int.reduceEq, beq_self_eq_true, Int.reducePow, Nat.reducePow, Int.reduceDiv, Nat.reduceLeDiff, reduceCtorEq, Tryz.f62, Tryz.results62, bC211]
  exact h
theorem own_weak {n : Nat} {H0 Hb H1 : Mem} {v : Value} {l : Nat} {cs : List Value} (h : OwnV n Hb v l cs H1) (hle : H0.le Hb) : ∃ H2, OwnV n H0 v l cs H2 ∧ H2.le H1 := by
  obtain ⟨hl, ⟨h1, h2, rfl⟩ | ⟨b, cap, r, hb, h1, h2, h3, rfl⟩⟩ := h
  · exact ⟨H0, ⟨hl, .inl ⟨h1, h2, rfl⟩⟩, hle⟩
  · have hb0 : H0 b = none := by
      cases hq : H0 b with
      | none => rfl
      | some B => obtain ⟨B', h', _⟩ := hle.1 _ _ hq; rw [hb] at h'; cases h'
    refine ⟨H0.upd b ⟨true, r, cs⟩, ⟨hl, .inr ⟨b, cap, r, hb0, h1, h2, h3, rfl⟩⟩, fun c C hc => ?_, hle.2, hle.3, hle.4⟩
    by_cases hcb : c = b
    · subst hcb
      simp only [Mem.upd, if_true] at hc ⊢
      exact ⟨_, rfl, by cases hc; exact Blk.le_refl _⟩
    · simp only [Mem.upd, hcb, if_false] at hc ⊢
      exact hle.1 _ _ hc
/-- What List tells. -/
def countC (cs : List Int) (k : Nat) : List Value := (List.range k).flatMap fun i => [.string (bs (namesL[i]?.getD [])), .int .i64 (cs[i]?.getD 0)]
theorem countC_succ (cs : List Int) (k : Nat) : countC cs (k + 1) = countC cs k ++ [.string (bs (namesL[k]?.getD [])), .int .i64 (cs[k]?.getD 0)] := by
  simp [countC, List.range_succ]
theorem countC_len (cs : List Int) (k : Nat) : (countC cs k).length = k * 2 := by
  induction k with
  | zero => rfl
  | succ k ih => rw [countC_succ, List.length_append, ih]; simp; omega
theorem list_W {b : Nat} {cs : List Int} {rest : List Value} (ht : Tal cs rest) (hb : H b = some ⟨true, 16, tc cs rest⟩)
    (h : ∀ v H', OwnV 2 H v 12 (countC cs 12) H' → K v H') : InvW Tryz.prog 19 #[.pointer (some ⟨b, 0, none⟩)] H K := by
  refine InvW.weak ?_
  (refine invW_of_pw Tryz.func19 rfl rfl (by decide +kernel) (by simp [Tryz.f19]) ?_); simp -dsimp -failIfUnchanged (maxSteps := 2000000) (disch := omega) only [VA, if_true_, if_false_, reduceIte, Nat.reduceEqDiff, Nat.reduceAdd, Nat.reduceMul, Nat.reduceSub, Int.reduceToNat, Int.reduceAdd, Int.reduceNeg, Int.reduceSub, Int.reduceMul, Int.reduceBEq, Int.reduceBNe, Int.reduceLT, Int.reduceLE, Int.reduceEq, beq_self_eq_true, Int.reducePow, Nat.reducePow, Int.reduceDiv, Nat.reduceLeDiff, reduceCtorEq, Tryz.f19, Tryz.results19, bC212, Option.isNone_some]
  refine names_W fun x hx => ?_
  simp -dsimp -failIfUnchanged (maxSteps := 2000000) (disch := omega) only [VA, if_true_, if_false_, reduceIte, Nat.reduceEqDiff, Nat.reduceAdd, Nat.reduceMul, Nat.reduceSub, Int.reduceToNat, Int.reduceAdd, Int.reduceNeg, Int.reduceSub, Int.reduceMul, Int.reduceBEq, Int.reduceBNe, Int.reduceLT, Int.reduceLE, Int.reduceEq, beq_self_eq_true, Int.reducePow, Nat.reducePow, Int.reduceDiv, Nat.reduceLeDiff, reduceCtorEq, Tryz.f19, Tryz.results19, bC212]
  refine loop_enter (loop_ind ?_ (fun (i : Nat) e1 H1 => e1.ds = [] ∧ e1 0 = .pointer (some ⟨b, 0, none⟩) ∧ e1 8 = .slice (some ⟨x, 0, none⟩) 12 12 ∧ e1 9 = .int .i64 12 ∧ e1 10 = .int .i64 i ∧ i ≤ 12 ∧
      ∃ Hb v, (H.upd x ⟨true, 12, namesC⟩).le Hb ∧ e1 3 = v ∧ OwnV 2 Hb v i (countC cs i) H1) (fun i => 12 - i) ?_ 0 _ _ ?_)
  · decide +kernel
  rotate_left
  · simp -dsimp -failIfUnchanged (maxSteps := 2000000) (disch := omega) only [VA, if_true_, if_false_, reduceIte, Nat.reduceEqDiff, Nat.reduceAdd, Nat.reduceMul, Nat.reduceSub, Int.reduceToNat, Int.reduceAdd, Int.reduceNeg, Int.reduceSub, Int.reduceMul, Int.reduceBEq, Int.reduceBNe, Int.reduceLT, Int.reduceLE, Int.reduceEq, beq_self_eq_true, Int.reducePow, Nat.reducePow, Int.reduceDiv, Nat.reduceLeDiff, reduceCtorEq, Tryz.f19, Tryz.results19, bC212]
    refine ⟨trivial, trivial, trivial, trivial, ?_, ?_, _, _, Mem.le_refl _, (by trivial), OwnV.nil⟩ <;> first | trivial | rfl
  rintro i e1 H1 ⟨d0, d1, d2, d3, d4, hi, Hb, v, hle, d5, hov⟩ ih
  have hH1 := Mem.le_trans hle hov.le
  by_cases hlt : i < 12
  · have q1 : decide ((i : Int) < 12) = true := decide_eq_true (by omega)
    have hnm : namesC[i]? = some (.string (bs (namesL[i]?.getD []))) := by
      have hl : namesL.length = 12 := rfl
      unfold namesC; rw [List.getElem?_map, List.getElem?_eq_getElem (by omega)]; rfl
    have hrd : H1.read ⟨x, (i : Int).toNat * 1, none⟩ 1 = some [.string (bs (namesL[i]?.getD []))] := by
      refine read_le hH1 ?_
      rw [Int.toNat_natCast, Nat.mul_one]
      exact read_cell (rw := true) (r := 12) (cs := namesC) (if_pos rfl) hnm
    simp -dsimp -failIfUnchanged (maxSteps := 2000000) (disch := omega) only [VA, if_true_, if_false_, reduceIte, Nat.reduceEqDiff, Nat.reduceAdd, Nat.reduceMul, Nat.reduceSub, Int.reduceToNat, Int.reduceAdd, Int.reduceNeg, Int.reduceSub, Int.reduceMul, Int.reduceBEq, Int.reduceBNe, Int.reduceLT, Int.reduceLE, Int.reduceEq, beq_self_eq_true, Int.reducePow, Nat.reducePow, Int.reduceDiv, Nat.reduceLeDiff, reduceCtorEq, Tryz.f19, Tryz.results19, bC212, d0, d1, d2, d3, d4, d5, q1, hrd]
    have hrc : H1.read ⟨b, (i : Int).toNat * 1, none⟩ 1 = some [.int .i64 (cs[i]?.getD 0)] := by
      refine read_le (Mem.le_trans (Mem.le_upd hx _) hH1) ?_
      rw [Int.toNat_natCast, Nat.mul_one]
      exact read_cell hb (tc_get ht hlt)
    refine loadR_W hrc ?_
    simp -dsimp -failIfUnchanged (maxSteps := 2000000) (disch := omega) only [VA, if_true_, if_false_, reduceIte, Nat.reduceEqDiff, Nat.reduceAdd, Nat.reduceMul, Nat.reduceSub, Int.reduceToNat, Int.reduceAdd, Int.reduceNeg, Int.reduceSub, Int.reduceMul, Int.reduceBEq, Int.reduceBNe, Int.reduceLT, Int.reduceLE, Int.reduceEq, beq_self_eq_true, Int.reducePow, Nat.reducePow, Int.reduceDiv, Nat.reduceLeDiff, reduceCtorEq, Tryz.f19, Tryz.results19, bC212]
    refine semW_build ?_
    simp -dsimp -failIfUnchanged (maxSteps := 2000000) (disch := omega) only [VA, if_true_, if_false_, reduceIte, Nat.reduceEqDiff, Nat.reduceAdd, Nat.reduceMul, Nat.reduceSub, Int.reduceToNat, Int.reduceAdd, Int.reduceNeg, Int.reduceSub, Int.reduceMul, Int.reduceBEq, Int.reduceBNe, Int.reduceLT, Int.reduceLE, Int.reduceEq, beq_self_eq_true, Int.reducePow, Nat.reducePow, Int.reduceDiv, Nat.reduceLeDiff, reduceCtorEq, Tryz.f19, Tryz.results19, bC212]
    refine build_W (cs := [.string (bs (namesL[i]?.getD [])), .int .i64 (cs[i]?.getD 0)]) einf46 rfl (by decide) ?_ fun y hy => ?_
    · simp -dsimp -failIfUnchanged (maxSteps := 2000000) (disch := omega) only [VA, if_true_, if_false_, reduceIte, Nat.reduceEqDiff, Nat.reduceAdd, Nat.reduceMul, Nat.reduceSub, Int.reduceToNat, Int.reduceAdd, Int.reduceNeg, Int.reduceSub, Int.reduceMul, Int.reduceBEq, Int.reduceBNe, Int.reduceLT, Int.reduceLE, Int.reduceEq, beq_self_eq_true, Int.reducePow, Nat.reducePow, Int.reduceDiv, Nat.reduceLeDiff, reduceCtorEq, Tryz.f19, Tryz.results19, bC212, zerosL]
    simp -dsimp -failIfUnchanged (maxSteps := 2000000) (disch := omega) only [VA, if_true_, if_false_, reduceIte, Nat.reduceEqDiff, Nat.reduceAdd, Nat.reduceMul, Nat.reduceSub, Int.reduceToNat, Int.reduceAdd, Int.reduceNeg, Int.reduceSub, Int.reduceMul, Int.reduceBEq, Int.reduceBNe, Int.reduceLT, Int.reduceLE, Int.reduceEq, beq_self_eq_true, Int.reducePow, Nat.reducePow, Int.reduceDiv, Nat.reduceLeDiff, reduceCtorEq, Tryz.f19, Tryz.results19, bC212]
    refine semW_append ?_
    simp -dsimp -failIfUnchanged (maxSteps := 2000000) (disch := omega) only [VA, if_true_, if_false_, reduceIte, Nat.reduceEqDiff, Nat.reduceAdd, Nat.reduceMul, Nat.reduceSub, Int.reduceToNat, Int.reduceAdd, Int.reduceNeg, Int.reduceSub, Int.reduceMul, Int.reduceBEq, Int.reduceBNe, Int.reduceLT, Int.reduceLE, Int.reduceEq, beq_self_eq_true, Int.reducePow, Nat.reducePow, Int.reduceDiv, Nat.reduceLeDiff, reduceCtorEq, Tryz.f19, Tryz.results19, bC212]
    have hyb : Hb y = none := by
      cases hq : Hb y with
      | none => rfl
      | some B => obtain ⟨B', h', _⟩ := hov.le.1 _ _ hq; rw [hy] at h'; cases h'
    have hsrc : SrcV 2 (H1.upd y ⟨true, 2, [.string (bs (namesL[i]?.getD [])), .int .i64 (cs[i]?.getD 0)]⟩) (.slice (some ⟨y, 0, none⟩) 1 1) 1 [.string (bs (namesL[i]?.getD [])), .int .i64 (cs[i]?.getD 0)] := (OwnV.new (n := 2) (l := 1) (cs := [.string (bs (namesL[i]?.getD [])), .int .i64 (cs[i]?.getD 0)]) hy rfl).src
    refine append_own einf46 (by decide) rfl (hov.upd hy _) hsrc rfl (by omega) (by omega) fun v' H' ho3 => ?_
    simp -dsimp -failIfUnchanged (maxSteps := 2000000) (disch := omega) only [VA, if_true_, if_false_, reduceIte, Nat.reduceEqDiff, Nat.reduceAdd, Nat.reduceMul, Nat.reduceSub, Int.reduceToNat, Int.reduceAdd, Int.reduceNeg, Int.reduceSub, Int.reduceMul, Int.reduceBEq, Int.reduceBNe, Int.reduceLT, Int.reduceLE, Int.reduceEq, beq_self_eq_true, Int.reducePow, Nat.reducePow, Int.reduceDiv, Nat.reduceLeDiff, reduceCtorEq, Tryz.f19, Tryz.results19, bC212, d0, d1, d2, d3, d4]
    refine ih (i + 1) _ _ ?_ (by omega)
    simp -dsimp -failIfUnchanged (maxSteps := 2000000) (disch := omega) only [VA, if_true_, if_false_, reduceIte, Nat.reduceEqDiff, Nat.reduceAdd, Nat.reduceMul, Nat.reduceSub, Int.reduceToNat, Int.reduceAdd, Int.reduceNeg, Int.reduceSub, Int.reduceMul, Int.reduceBEq, Int.reduceBNe, Int.reduceLT, Int.reduceLE, Int.reduceEq, beq_self_eq_true, Int.reducePow, Nat.reducePow, Int.reduceDiv, Nat.reduceLeDiff, reduceCtorEq, Tryz.f19, Tryz.results19, bC212, d0, d1, d2, d3, d4]
    exact ⟨trivial, trivial, trivial, trivial, by simp, by omega, _, _, Mem.le_trans hle (Mem.le_upd hyb _), (by trivial), by rw [countC_succ]; exact ho3⟩
  · have q1 : decide ((i : Int) < 12) = false := decide_eq_false (by omega)
    obtain rfl : i = 12 := by omega
    simp -dsimp -failIfUnchanged (maxSteps := 2000000) (disch := omega) only [VA, if_true_, if_false_, reduceIte, Nat.reduceEqDiff, Nat.reduceAdd, Nat.reduceMul, Nat.reduceSub, Int.reduceToNat, Int.reduceAdd, Int.reduceNeg, Int.reduceSub, Int.reduceMul, Int.reduceBEq, Int.reduceBNe, Int.reduceLT, Int.reduceLE, Int.reduceEq, beq_self_eq_true, Int.reducePow, Nat.reducePow, Int.reduceDiv, Nat.reduceLeDiff, reduceCtorEq, Tryz.f19, Tryz.results19, bC212, d0, d1, d2, d3, d4, d5, q1]
    obtain ⟨H2, h2, h3⟩ := own_weak hov (Mem.le_trans (Mem.le_upd hx _) hle)
    exact ⟨H2, h3, h v H2 h2⟩
end Go.Proofs.YtgkolnknobgcmaaGreat
end
section
namespace Go.Proofs.YtgkolnknobgcmaaGreat
open Go Go.Proofs.YtgkolnknobgcmaaGreatV Go.Shelf
set_option maxRecDepth 20000
set_option linter.unusedSimpArgs false
set_option linter.unusedVariables false
set_option maxHeartbeats 4000000
theorem bC220 : type_of% @Tryz.underlying3 ∧ type_of% @ty3 ∧ type_of% @zero3 ∧ type_of% @Tryz.underlying9 ∧ type_of% @ty9 ∧ type_of% @zero9 ∧ type_of% @Tryz.underlying63 ∧ type_of% @elt63 ∧ type_of% @fld63_0 ∧ type_of% @fld63_1 ∧ type_of% @fld63_2 ∧ type_of% @fld63_3 ∧ type_of% @fld63_4 ∧ type_of% @fld63_5 ∧ type_of% @fld63_6 ∧ type_of% @fld63_7 ∧ type_of% @flds63 ∧ type_of% @ty63 ∧ type_of% @zero63 ∧ type_of% @Tryz.ntmps25 := ⟨@Tryz.underlying3, @ty3, @zero3, @Tryz.underlying9, @ty9, @zero9, @Tryz.underlying63, @elt63, @fld63_0, @fld63_1, @fld63_2, @fld63_3, @fld63_4, @fld63_5, @fld63_6, @fld63_7, @flds63, @ty63, @zero63, @Tryz.ntmps25⟩
variable {H : Mem} {K : Value → Mem → Prop}

def lightB (z : Stz) : Bool := decide ((z.u.length : Int) ≤ 100) && decide ((z.r.length : Int) ≤ 100) && decide ((z.n.length : Int) ≤ 100)
theorem light_W {z : Stz} (h : K (.bool (lightB z)) H) : InvW Tryz.prog 25 #[stzV z] H K := by
  refine InvW.weak ?_
  unfold lightB at h
  cases c1 : decide ((z.u.length : Int) ≤ 100) <;> cases c2 : decide ((z.r.length : Int) ≤ 100) <;> cases c3 : decide ((z.n.length : Int) ≤ 100) <;> rw [c1, c2, c3] at h <;>
    ((refine invW_of_pw Tryz.func25 rfl rfl (by decide +kernel) (by simp [Tryz.f25]) ?_); simp -dsimp -failIfUnchanged (maxSteps := 2000000) (disch := omega) only [VA, if_true_, if_false_, reduceIte, Nat.reduceEqDiff, Nat.reduceAdd, Nat.reduceMul, Nat.reduceSub, Int.reduceToNat, Int.reduceAdd, Int.reduceNeg, Int.reduceSub, Int.reduceMul, Int.reduceBEq, Int.reduceBNe, Int.reduceLT, Int.reduceLE, Int.reduceEq, beq_self_eq_true, Int.reducePow, Nat.reducePow, Int.reduceDiv, Nat.reduceLeDiff, reduceCtorEq, Tryz.f25, Tryz.results25, bC220, stzV, c1, c2, c3]
     intro b hb
     simp -dsimp -failIfUnchanged (maxSteps := 2000000) (disch := omega) only [VA, if_true_, if_false_, reduceIte, Nat.reduceEqDiff, Nat.reduceAdd, Nat.reduceMul, Nat.reduceSub, Int.reduceToNat, Int.reduceAdd, Int.reduceNeg, Int.reduceSub, Int.reduceMul, Int.reduceBEq, Int.reduceBNe, Int.reduceLT, Int.reduceLE, Int.reduceEq, beq_self_eq_true, Int.reducePow, Nat.reducePow, Int.reduceDiv, Nat.reduceLeDiff, reduceCtorEq, Tryz.f25, Tryz.results25, bC220, c1, c2, c3]
     exact ⟨H, Mem.le_upd hb _, h⟩)
theorem light_small {z : Stz} (h : lightB z = true) : z.small := by
  simp only [lightB, Bool.and_eq_true, decide_eq_true_eq] at h
  unfold Stz.small; omega
end Go.Proofs.YtgkolnknobgcmaaGreat
end
section
namespace Go.Proofs.YtgkolnknobgcmaaGreat
open Go Go.Proofs.YtgkolnknobgcmaaGreatV Go.Shelf
set_option maxRecDepth 20000
set_option linter.unusedSimpArgs false
set_option linter.unusedVariables false
set_option maxHeartbeats 4000000
theorem bC230 : type_of% @Tryz.underlying3 ∧ type_of% @ty3 ∧ type_of% @zero3 ∧ type_of% @Tryz.underlying9 ∧ type_of% @ty9 ∧ type_of% @zero9 ∧ type_of% @Tryz.underlying183 ∧ type_of% @einf183 ∧ type_of% @elt183 ∧ type_of% @ty183 ∧ type_of% @zero183 ∧ type_of% @Tryz.ntmps117 := ⟨@Tryz.underlying3, @ty3, @zero3, @Tryz.underlying9, @ty9, @zero9, @Tryz.underlying183, @einf183, @elt183, @ty183, @zero183, @Tryz.ntmps117⟩
variable {H : Mem} {K : Value → Mem → Prop}

/-- A text that may be framed. -/
theorem frame_ok {s : List UInt8} (h0 : s ≠ []) (h1 : s.length ≤ 128) (h : K (.tuple #[.string (bs (be 2 s.length ++ s)), .int .i64 0]) H) : InvW Tryz.prog 117 #[.string (bs s)] H K := by
  refine InvW.weak ?_
  have c1 : decide (s = []) = false := decide_eq_false h0
  have c2 : decide ((128 : Int) < s.length) = false := decide_eq_false (by omega)
  have z1 : (bs (be 2 s.length)).size = 2 := by rw [bs_size, be_length]
  have z2 := bs_size s
  (refine invW_of_pw Tryz.func117 rfl rfl (by decide +kernel) (by simp [Tryz.f117]) ?_); simp -dsimp -failIfUnchanged (maxSteps := 2000000) (disch := omega) only [VA, if_true_, if_false_, reduceIte, Nat.reduceEqDiff, Nat.reduceAdd, Nat.reduceMul, Nat.reduceSub, Int.reduceToNat, Int.reduceAdd, Int.reduceNeg, Int.reduceSub, Int.reduceMul, Int.reduceBEq, Int.reduceBNe, Int.reduceLT, Int.reduceLE, Int.reduceEq, beq_self_eq_true, Int.reducePow, Nat.reducePow, Int.reduceDiv, Nat.reduceLeDiff, reduceCtorEq, Tryz.f117, Tryz.results117, bC230, c1, c2]
  refine lay_ok (.inr (.inl rfl)) (by omega) (by show (s.length : Int) < 65536; omega) fun b hb => ?_
  have hsrc : SrcV 1 (H.upd b ⟨true, 2, byC (be 2 s.length)⟩) (.slice (some ⟨b, 0, none⟩) 2 2) 2 (byC (be 2 s.length)) :=
    OwnV.src (H0 := H) (n := 1) ⟨by rw [byC_length, be_length], .inr ⟨b, 2, 2, hb, rfl, Nat.le_refl _, by decide, rfl⟩⟩
  simp -dsimp -failIfUnchanged (maxSteps := 2000000) (disch := omega) only [VA, if_true_, if_false_, reduceIte, Nat.reduceEqDiff, Nat.reduceAdd, Nat.reduceMul, Nat.reduceSub, Int.reduceToNat, Int.reduceAdd, Int.reduceNeg, Int.reduceSub, Int.reduceMul, Int.reduceBEq, Int.reduceBNe, Int.reduceLT, Int.reduceLE, Int.reduceEq, beq_self_eq_true, Int.reducePow, Nat.reducePow, Int.reduceDiv, Nat.reduceLeDiff, reduceCtorEq, Tryz.f117, Tryz.results117, bC230]
  refine conv_string (l := be 2 s.length) Tryz.underlying183 Tryz.underlying5 Tryz.underlying9 hsrc ?_
  simp -dsimp -failIfUnchanged (maxSteps := 2000000) (disch := omega) only [VA, if_true_, if_false_, reduceIte, Nat.reduceEqDiff, Nat.reduceAdd, Nat.reduceMul, Nat.reduceSub, Int.reduceToNat, Int.reduceAdd, Int.reduceNeg, Int.reduceSub, Int.reduceMul, Int.reduceBEq, Int.reduceBNe, Int.reduceLT, Int.reduceLE, Int.reduceEq, beq_self_eq_true, Int.reducePow, Nat.reducePow, Int.reduceDiv, Nat.reduceLeDiff, reduceCtorEq, Tryz.f117, Tryz.results117, bC230]
  exact ⟨H, Mem.le_upd hb _, h⟩
end Go.Proofs.YtgkolnknobgcmaaGreat
end
section
namespace Go.Proofs.YtgkolnknobgcmaaGreat
open Go Go.Proofs.YtgkolnknobgcmaaGreatV Go.Shelf
set_option maxRecDepth 20000
set_option linter.unusedSimpArgs false
set_option linter.unusedVariables false
set_option maxHeartbeats 4000000
variable {H : Mem} {K : Value → Mem → Prop}

theorem disable_W (h : K (.tuple #[]) H) : InvW Tryz.prog 219 #[] H K :=
  fun w hw => ⟨.value (.tuple #[]), w, H, run_call_mark0 Tryz.func219 rfl rfl rfl .disable rfl w, hw, h⟩
theorem enable_W (h : K (.tuple #[]) H) : InvW Tryz.prog 221 #[] H K :=
  fun w hw => ⟨.value (.tuple #[]), w, H, run_call_mark0 Tryz.func221 rfl rfl rfl .enable rfl w, hw, h⟩
theorem acquire_W {a : Addr} (h : K (.tuple #[]) H) : InvW Tryz.prog 222 #[.pointer (some a)] H K :=
  fun w hw => ⟨.value (.tuple #[]), w, H, run_call_marked Tryz.func222 rfl rfl rfl .acquire rfl a w, hw, h⟩
theorem merge_W {a : Addr} (h : K (.tuple #[]) H) : InvW Tryz.prog 224 #[.pointer (some a)] H K :=
  fun w hw => ⟨.value (.tuple #[]), w, H, run_call_marked Tryz.func224 rfl rfl rfl .releaseMerge rfl a w, hw, h⟩
theorem cas32_W {b o r : Nat} {cs : List Value} {x y : Int} (hb : H b = some ⟨true, r, cs⟩) (ho : cs[o]? = some (.int .i32 x)) (hr : o < r) (h : K (.bool true) (H.upd b ⟨true, r, cs.set o (.int .i32 y)⟩)) :
    InvW Tryz.prog 220 #[.pointer (some ⟨b, o, none⟩), .int .i32 x, .int .i32 y] H K :=
  fun w hw => ⟨.value (.bool true), _, _, run_call_cas_hit Tryz.func220 rfl rfl rfl .i32 rfl (hw.cell hb ho) (hw.frozen hb rfl hr), hw.setCell hb rfl _, h⟩
theorem add32_W {b o r : Nat} {cs : List Value} {x y : Int} (hb : H b = some ⟨true, r, cs⟩) (ho : cs[o]? = some (.int .i32 x)) (hr : o < r) (hs : -2147483648 ≤ x + y ∧ x + y ≤ 2147483647) (h : K (.int .i32 (x + y)) (H.upd b ⟨true, r, cs.set o (.int .i32 (x + y))⟩)) :
    InvW Tryz.prog 225 #[.pointer (some ⟨b, o, none⟩), .int .i32 y] H K :=
  fun w hw => ⟨.value (.int .i32 (x + y)), _, _, run_call_add Tryz.func225 rfl rfl rfl .i32 rfl (hw.cell hb ho) (hw.frozen hb rfl hr) (by
    have : IntKind.i32.wrap (x + y) = x + y := by rw [IntKind.wrap_i32]; omega
    simp [Op.intArith, this]), hw.setCell hb rfl _, h⟩
theorem loadU_W {a : Addr} {x : Int} (hr : H.read a 1 = some [.int .u32 x]) (h : K (.int .u32 x) H) : InvW Tryz.prog 187 #[.pointer (some a)] H K :=
  fun w hw => ⟨.value (.int .u32 x), w, H, run_call_load Tryz.func187 rfl rfl rfl .u32 rfl (cell_of_read hw hr), hw, h⟩
theorem storeU_W {b o : Nat} {r : Nat} {cs : List Value} {x y : Int} (hb : H b = some ⟨true, r, cs⟩) (ho : cs[o]? = some (.int .u32 x)) (hr : o < r) (h : K (.tuple #[]) (H.upd b ⟨true, r, cs.set o (.int .u32 y)⟩)) :
    InvW Tryz.prog 208 #[.pointer (some ⟨b, o, none⟩), .int .u32 y] H K :=
  fun w hw => ⟨.value (.tuple #[]), _, _, run_call_store Tryz.func208 rfl rfl rfl rfl (hw.cell hb ho) (hw.frozen hb rfl hr), hw.setCell hb rfl _, h⟩
end Go.Proofs.YtgkolnknobgcmaaGreat
end
section
namespace Go.Proofs.YtgkolnknobgcmaaGreat
open Go Go.Proofs.YtgkolnknobgcmaaGreatV Go.Shelf
set_option maxRecDepth 20000
set_option linter.unusedSimpArgs false
set_option linter.unusedVariables false
set_option maxHeartbeats 4000000
theorem bC250 : type_of% @Tryz.underlying143 ∧ type_of% @elt143 ∧ type_of% @fld143_0 ∧ type_of% @fld143_1 ∧ type_of% @flds143 ∧ type_of% @ty143 ∧ type_of% @zero143 ∧ type_of% @Tryz.underlying145 ∧ type_of% @elt145 ∧ type_of% @fld145_0 ∧ type_of% @fld145_1 ∧ type_of% @flds145 ∧ type_of% @ty145 ∧ type_of% @zero145 ∧ type_of% @Tryz.ntmps188 := ⟨@Tryz.underlying143, @elt143, @fld143_0, @fld143_1, @flds143, @ty143, @zero143, @Tryz.underlying145, @elt145, @fld145_0, @fld145_1, @flds145, @ty145, @zero145, @Tryz.ntmps188⟩
theorem bC251 : type_of% @Tryz.underlying21 ∧ type_of% @ty21 ∧ type_of% @zero21 ∧ type_of% @Tryz.underlying143 ∧ type_of% @elt143 ∧ type_of% @fld143_0 ∧ type_of% @fld143_1 ∧ type_of% @flds143 ∧ type_of% @ty143 ∧ type_of% @zero143 ∧ type_of% @Tryz.underlying303 ∧ type_of% @Tryz.underlying324 ∧ type_of% @ty324 ∧ type_of% @zero324 ∧ type_of% @Tryz.underlying326 ∧ type_of% @ty326 ∧ type_of% @zero326 ∧ type_of% @Tryz.ntmps206 := ⟨@Tryz.underlying21, @ty21, @zero21, @Tryz.underlying143, @elt143, @fld143_0, @fld143_1, @flds143, @ty143, @zero143, @Tryz.underlying303, @Tryz.underlying324, @ty324, @zero324, @Tryz.underlying326, @ty326, @zero326, @Tryz.ntmps206⟩
theorem bC252 : type_of% @Tryz.underlying57 ∧ type_of% @ty57 ∧ type_of% @zero57 ∧ type_of% @Tryz.underlying141 ∧ type_of% @elt141 ∧ type_of% @fld141_0 ∧ type_of% @fld141_1 ∧ type_of% @flds141 ∧ type_of% @ty141 ∧ type_of% @zero141 ∧ type_of% @Tryz.underlying295 ∧ type_of% @ty295 ∧ type_of% @zero295 ∧ type_of% @Tryz.ntmps167 := ⟨@Tryz.underlying57, @ty57, @zero57, @Tryz.underlying141, @elt141, @fld141_0, @fld141_1, @flds141, @ty141, @zero141, @Tryz.underlying295, @ty295, @zero295, @Tryz.ntmps167⟩
theorem bC253 : type_of% @Tryz.underlying21 ∧ type_of% @ty21 ∧ type_of% @zero21 ∧ type_of% @Tryz.underlying143 ∧ type_of% @elt143 ∧ type_of% @fld143_0 ∧ type_of% @fld143_1 ∧ type_of% @flds143 ∧ type_of% @ty143 ∧ type_of% @zero143 ∧ type_of% @Tryz.underlying303 ∧ type_of% @Tryz.underlying324 ∧ type_of% @ty324 ∧ type_of% @zero324 ∧ type_of% @Tryz.underlying326 ∧ type_of% @ty326 ∧ type_of% @zero326 ∧ type_of% @Tryz.ntmps207 := ⟨@Tryz.underlying21, @ty21, @zero21, @Tryz.underlying143, @elt143, @fld143_0, @fld143_1, @flds143, @ty143, @zero143, @Tryz.underlying303, @Tryz.underlying324, @ty324, @zero324, @Tryz.underlying326, @ty326, @zero326, @Tryz.ntmps207⟩
theorem bC254 : type_of% @Tryz.underlying143 ∧ type_of% @elt143 ∧ type_of% @fld143_0 ∧ type_of% @fld143_1 ∧ type_of% @flds143 ∧ type_of% @ty143 ∧ type_of% @zero143 ∧ type_of% @Tryz.underlying145 ∧ type_of% @elt145 ∧ type_of% @fld145_0 ∧ type_of% @fld145_1 ∧ type_of% @flds145 ∧ type_of% @ty145 ∧ type_of% @zero145 ∧ type_of% @Tryz.ntmps189 := ⟨@Tryz.underlying143, @elt143, @fld143_0, @fld143_1, @flds143, @ty143, @zero143, @Tryz.underlying145, @elt145, @fld145_0, @fld145_1, @flds145, @ty145, @zero145, @Tryz.ntmps189⟩
variable {H : Mem} {K : Value → Mem → Prop}

theorem conv_unsafe {T1 T2 t : TypeId} {a : Addr} {v : Value} (hs : Tryz.prog.underlying T1 = some (.pointer t)) (hd : Tryz.prog.underlying T2 = some .unsafePointer) (hsz : (Tryz.prog.info? t).map (fun i => decide (i.size = 0)) = some false)
    (hr : H.read a 1 = some [v]) (h : K (.pointer (some a)) H) : ValW Tryz.prog (convert T1 T2 (.pointer (some a))) H K :=
  fun w hw => ⟨_, w, H, run_convert_to_unsafe hs hd hsz (cell_of_read hw hr), hw, h⟩
theorem lock_W {b o r : Nat} {cs : List Value} (hb : H b = some ⟨true, r, cs⟩) (ho : cs[o]? = some (.int .i32 0)) (hr : o < r) (h : K (.tuple #[]) (H.upd b ⟨true, r, cs.set o (.int .i32 1)⟩)) :
    InvW Tryz.prog 188 #[.pointer (some ⟨b, o, none⟩)] H K := by
  (refine invW_of_pw Tryz.func188 rfl rfl (by decide +kernel) (by simp [Tryz.f188]) ?_); simp -dsimp -failIfUnchanged (maxSteps := 2000000) (disch := omega) only [VA, if_true_, if_false_, reduceIte, Nat.reduceEqDiff, Nat.reduceAdd, Nat.reduceMul, Nat.reduceSub, Int.reduceToNat, Int.reduceAdd, Int.reduceNeg, Int.reduceSub, Int.reduceMul, Int.reduceBEq, Int.reduceBNe, Int.reduceLT, Int.reduceLE, Int.reduceEq, beq_self_eq_true, Int.reducePow, Nat.reducePow, Int.reduceDiv, Nat.reduceLeDiff, reduceCtorEq, Tryz.f188, Tryz.results188, bC250]
  (refine invW_of_pw Tryz.func206 rfl rfl (by decide +kernel) (by simp [Tryz.f206]) ?_); simp -dsimp -failIfUnchanged (maxSteps := 2000000) (disch := omega) only [VA, if_true_, if_false_, reduceIte, Nat.reduceEqDiff, Nat.reduceAdd, Nat.reduceMul, Nat.reduceSub, Int.reduceToNat, Int.reduceAdd, Int.reduceNeg, Int.reduceSub, Int.reduceMul, Int.reduceBEq, Int.reduceBNe, Int.reduceLT, Int.reduceLE, Int.reduceEq, beq_self_eq_true, Int.reducePow, Nat.reducePow, Int.reduceDiv, Nat.reduceLeDiff, reduceCtorEq, Tryz.f206, Tryz.results206, bC251]
  refine disable_W ?_
  simp -dsimp -failIfUnchanged (maxSteps := 2000000) (disch := omega) only [VA, if_true_, if_false_, reduceIte, Nat.reduceEqDiff, Nat.reduceAdd, Nat.reduceMul, Nat.reduceSub, Int.reduceToNat, Int.reduceAdd, Int.reduceNeg, Int.reduceSub, Int.reduceMul, Int.reduceBEq, Int.reduceBNe, Int.reduceLT, Int.reduceLE, Int.reduceEq, beq_self_eq_true, Int.reducePow, Nat.reducePow, Int.reduceDiv, Nat.reduceLeDiff, reduceCtorEq, Tryz.f206, Tryz.results206, bC251]
  refine cas32_W hb ho hr ?_
  simp -dsimp -failIfUnchanged (maxSteps := 2000000) (disch := omega) only [VA, if_true_, if_false_, reduceIte, Nat.reduceEqDiff, Nat.reduceAdd, Nat.reduceMul, Nat.reduceSub, Int.reduceToNat, Int.reduceAdd, Int.reduceNeg, Int.reduceSub, Int.reduceMul, Int.reduceBEq, Int.reduceBNe, Int.reduceLT, Int.reduceLE, Int.reduceEq, beq_self_eq_true, Int.reducePow, Nat.reducePow, Int.reduceDiv, Nat.reduceLeDiff, reduceCtorEq, Tryz.f206, Tryz.results206, bC251]
  refine enable_W ?_
  simp -dsimp -failIfUnchanged (maxSteps := 2000000) (disch := omega) only [VA, if_true_, if_false_, reduceIte, Nat.reduceEqDiff, Nat.reduceAdd, Nat.reduceMul, Nat.reduceSub, Int.reduceToNat, Int.reduceAdd, Int.reduceNeg, Int.reduceSub, Int.reduceMul, Int.reduceBEq, Int.reduceBNe, Int.reduceLT, Int.reduceLE, Int.reduceEq, beq_self_eq_true, Int.reducePow, Nat.reducePow, Int.reduceDiv, Nat.reduceLeDiff, reduceCtorEq, Tryz.f206, Tryz.results206, bC251]
  refine conv_unsafe Tryz.underlying324 Tryz.underlying303 (by kernel_rfl) (v := .int .i32 1) ?_ ?_
  · have hl : o < cs.length := (List.getElem?_eq_some_iff.1 ho).1
    exact read_cell (rw := true) (r := r) (cs := cs.set o (.int .i32 1)) (if_pos rfl) (by rw [List.getElem?_set, if_pos rfl, if_pos hl])
  simp -dsimp -failIfUnchanged (maxSteps := 2000000) (disch := omega) only [VA, if_true_, if_false_, reduceIte, Nat.reduceEqDiff, Nat.reduceAdd, Nat.reduceMul, Nat.reduceSub, Int.reduceToNat, Int.reduceAdd, Int.reduceNeg, Int.reduceSub, Int.reduceMul, Int.reduceBEq, Int.reduceBNe, Int.reduceLT, Int.reduceLE, Int.reduceEq, beq_self_eq_true, Int.reducePow, Nat.reducePow, Int.reduceDiv, Nat.reduceLeDiff, reduceCtorEq, Tryz.f206, Tryz.results206, bC251]
  refine acquire_W ?_
  simp -dsimp -failIfUnchanged (maxSteps := 2000000) (disch := omega) only [VA, if_true_, if_false_, reduceIte, Nat.reduceEqDiff, Nat.reduceAdd, Nat.reduceMul, Nat.reduceSub, Int.reduceToNat, Int.reduceAdd, Int.reduceNeg, Int.reduceSub, Int.reduceMul, Int.reduceBEq, Int.reduceBNe, Int.reduceLT, Int.reduceLE, Int.reduceEq, beq_self_eq_true, Int.reducePow, Nat.reducePow, Int.reduceDiv, Nat.reduceLeDiff, reduceCtorEq, Tryz.f206, Tryz.results206, bC251]
  exact h
theorem boolLoad_W {b o : Nat} {x : Int} (hr : H.read ⟨b, o, none⟩ 1 = some [.int .u32 x]) (h : K (.bool (x != 0)) H) : InvW Tryz.prog 167 #[.pointer (some ⟨b, o, none⟩)] H K := by
  (refine invW_of_pw Tryz.func167 rfl rfl (by decide +kernel) (by simp [Tryz.f167]) ?_); simp -dsimp -failIfUnchanged (maxSteps := 2000000) (disch := omega) only [VA, if_true_, if_false_, reduceIte, Nat.reduceEqDiff, Nat.reduceAdd, Nat.reduceMul, Nat.reduceSub, Int.reduceToNat, Int.reduceAdd, Int.reduceNeg, Int.reduceSub, Int.reduceMul, Int.reduceBEq, Int.reduceBNe, Int.reduceLT, Int.reduceLE, Int.reduceEq, beq_self_eq_true, Int.reducePow, Nat.reducePow, Int.reduceDiv, Nat.reduceLeDiff, reduceCtorEq, Tryz.f167, Tryz.results167, bC252]
  refine loadU_W hr ?_
  simp -dsimp -failIfUnchanged (maxSteps := 2000000) (disch := omega) only [VA, if_true_, if_false_, reduceIte, Nat.reduceEqDiff, Nat.reduceAdd, Nat.reduceMul, Nat.reduceSub, Int.reduceToNat, Int.reduceAdd, Int.reduceNeg, Int.reduceSub, Int.reduceMul, Int.reduceBEq, Int.reduceBNe, Int.reduceLT, Int.reduceLE, Int.reduceEq, beq_self_eq_true, Int.reducePow, Nat.reducePow, Int.reduceDiv, Nat.reduceLeDiff, reduceCtorEq, Tryz.f167, Tryz.results167, bC252]
  exact h
theorem unlockI_W {b o r : Nat} {cs : List Value} (hb : H b = some ⟨true, r, cs⟩) (ho : cs[o]? = some (.int .i32 1)) (hr : o < r) (h : K (.tuple #[]) (H.upd b ⟨true, r, cs.set o (.int .i32 0)⟩)) :
    InvW Tryz.prog 207 #[.pointer (some ⟨b, o, none⟩)] H K := by
  have hrd := read_cell hb ho
  (refine invW_of_pw Tryz.func207 rfl rfl (by decide +kernel) (by simp [Tryz.f207]) ?_); simp -dsimp -failIfUnchanged (maxSteps := 2000000) (disch := omega) only [VA, if_true_, if_false_, reduceIte, Nat.reduceEqDiff, Nat.reduceAdd, Nat.reduceMul, Nat.reduceSub, Int.reduceToNat, Int.reduceAdd, Int.reduceNeg, Int.reduceSub, Int.reduceMul, Int.reduceBEq, Int.reduceBNe, Int.reduceLT, Int.reduceLE, Int.reduceEq, beq_self_eq_true, Int.reducePow, Nat.reducePow, Int.reduceDiv, Nat.reduceLeDiff, reduceCtorEq, Tryz.f207, Tryz.results207, bC253, hrd]
  refine conv_unsafe Tryz.underlying324 Tryz.underlying303 (by kernel_rfl) hrd ?_
  simp -dsimp -failIfUnchanged (maxSteps := 2000000) (disch := omega) only [VA, if_true_, if_false_, reduceIte, Nat.reduceEqDiff, Nat.reduceAdd, Nat.reduceMul, Nat.reduceSub, Int.reduceToNat, Int.reduceAdd, Int.reduceNeg, Int.reduceSub, Int.reduceMul, Int.reduceBEq, Int.reduceBNe, Int.reduceLT, Int.reduceLE, Int.reduceEq, beq_self_eq_true, Int.reducePow, Nat.reducePow, Int.reduceDiv, Nat.reduceLeDiff, reduceCtorEq, Tryz.f207, Tryz.results207, bC253]
  refine merge_W ?_
  simp -dsimp -failIfUnchanged (maxSteps := 2000000) (disch := omega) only [VA, if_true_, if_false_, reduceIte, Nat.reduceEqDiff, Nat.reduceAdd, Nat.reduceMul, Nat.reduceSub, Int.reduceToNat, Int.reduceAdd, Int.reduceNeg, Int.reduceSub, Int.reduceMul, Int.reduceBEq, Int.reduceBNe, Int.reduceLT, Int.reduceLE, Int.reduceEq, beq_self_eq_true, Int.reducePow, Nat.reducePow, Int.reduceDiv, Nat.reduceLeDiff, reduceCtorEq, Tryz.f207, Tryz.results207, bC253]
  refine disable_W ?_
  simp -dsimp -failIfUnchanged (maxSteps := 2000000) (disch := omega) only [VA, if_true_, if_false_, reduceIte, Nat.reduceEqDiff, Nat.reduceAdd, Nat.reduceMul, Nat.reduceSub, Int.reduceToNat, Int.reduceAdd, Int.reduceNeg, Int.reduceSub, Int.reduceMul, Int.reduceBEq, Int.reduceBNe, Int.reduceLT, Int.reduceLE, Int.reduceEq, beq_self_eq_true, Int.reducePow, Nat.reducePow, Int.reduceDiv, Nat.reduceLeDiff, reduceCtorEq, Tryz.f207, Tryz.results207, bC253]
  refine add32_W hb ho hr (by decide) ?_
  simp -dsimp -failIfUnchanged (maxSteps := 2000000) (disch := omega) only [VA, if_true_, if_false_, reduceIte, Nat.reduceEqDiff, Nat.reduceAdd, Nat.reduceMul, Nat.reduceSub, Int.reduceToNat, Int.reduceAdd, Int.reduceNeg, Int.reduceSub, Int.reduceMul, Int.reduceBEq, Int.reduceBNe, Int.reduceLT, Int.reduceLE, Int.reduceEq, beq_self_eq_true, Int.reducePow, Nat.reducePow, Int.reduceDiv, Nat.reduceLeDiff, reduceCtorEq, Tryz.f207, Tryz.results207, bC253]
  refine enable_W ?_
  simp -dsimp -failIfUnchanged (maxSteps := 2000000) (disch := omega) only [VA, if_true_, if_false_, reduceIte, Nat.reduceEqDiff, Nat.reduceAdd, Nat.reduceMul, Nat.reduceSub, Int.reduceToNat, Int.reduceAdd, Int.reduceNeg, Int.reduceSub, Int.reduceMul, Int.reduceBEq, Int.reduceBNe, Int.reduceLT, Int.reduceLE, Int.reduceEq, beq_self_eq_true, Int.reducePow, Nat.reducePow, Int.reduceDiv, Nat.reduceLeDiff, reduceCtorEq, Tryz.f207, Tryz.results207, bC253]
  exact h
theorem unlock_D {b o r : Nat} {cs : List Value} {K : Mem → Prop} (hb : H b = some ⟨true, r, cs⟩) (ho : cs[o]? = some (.int .i32 1)) (hr : o < r) (h : K (H.upd b ⟨true, r, cs.set o (.int .i32 0)⟩)) :
    DefW Tryz.prog 189 #[.pointer (some ⟨b, o, none⟩)] H K := by
  refine defW_of_pw Tryz.func189 rfl (by decide +kernel) (by simp [Tryz.f189]) ?_
  simp -dsimp -failIfUnchanged (maxSteps := 2000000) (disch := omega) only [VA, if_true_, if_false_, reduceIte, Nat.reduceEqDiff, Nat.reduceAdd, Nat.reduceMul, Nat.reduceSub, Int.reduceToNat, Int.reduceAdd, Int.reduceNeg, Int.reduceSub, Int.reduceMul, Int.reduceBEq, Int.reduceBNe, Int.reduceLT, Int.reduceLE, Int.reduceEq, beq_self_eq_true, Int.reducePow, Nat.reducePow, Int.reduceDiv, Nat.reduceLeDiff, reduceCtorEq, Tryz.f189, Tryz.results189, bC254]
  refine unlockI_W hb ho hr ?_
  simp -dsimp -failIfUnchanged (maxSteps := 2000000) (disch := omega) only [VA, if_true_, if_false_, reduceIte, Nat.reduceEqDiff, Nat.reduceAdd, Nat.reduceMul, Nat.reduceSub, Int.reduceToNat, Int.reduceAdd, Int.reduceNeg, Int.reduceSub, Int.reduceMul, Int.reduceBEq, Int.reduceBNe, Int.reduceLT, Int.reduceLE, Int.reduceEq, beq_self_eq_true, Int.reducePow, Nat.reducePow, Int.reduceDiv, Nat.reduceLeDiff, reduceCtorEq, Tryz.f189, Tryz.results189, bC254, endD]
  exact ⟨trivial, h⟩
end Go.Proofs.YtgkolnknobgcmaaGreat
end
section
namespace Go.Proofs.YtgkolnknobgcmaaGreat
open Go Go.Proofs.YtgkolnknobgcmaaGreatV Go.Shelf
set_option maxRecDepth 20000
set_option linter.unusedSimpArgs false
set_option linter.unusedVariables false
set_option maxHeartbeats 4000000
theorem bC260 : type_of% @Tryz.ntmps209 := @Tryz.ntmps209
theorem bC261 : type_of% @Tryz.underlying4 ∧ type_of% @ty4 ∧ type_of% @zero4 ∧ type_of% @Tryz.underlying57 ∧ type_of% @ty57 ∧ type_of% @zero57 ∧ type_of% @Tryz.underlying141 ∧ type_of% @elt141 ∧ type_of% @fld141_0 ∧ type_of% @fld141_1 ∧ type_of% @flds141 ∧ type_of% @ty141 ∧ type_of% @zero141 ∧ type_of% @Tryz.underlying295 ∧ type_of% @ty295 ∧ type_of% @zero295 ∧ type_of% @Tryz.ntmps190 := ⟨@Tryz.underlying4, @ty4, @zero4, @Tryz.underlying57, @ty57, @zero57, @Tryz.underlying141, @elt141, @fld141_0, @fld141_1, @flds141, @ty141, @zero141, @Tryz.underlying295, @ty295, @zero295, @Tryz.ntmps190⟩
variable {H : Mem}

theorem b32_W {K : Value → Mem → Prop} (h : K (.int .u32 1) H) : InvW Tryz.prog 209 #[.bool true] H K := by
  (refine invW_of_pw Tryz.func209 rfl rfl (by decide +kernel) (by simp [Tryz.f209]) ?_); simp -dsimp -failIfUnchanged (maxSteps := 2000000) (disch := omega) only [VA, if_true_, if_false_, reduceIte, Nat.reduceEqDiff, Nat.reduceAdd, Nat.reduceMul, Nat.reduceSub, Int.reduceToNat, Int.reduceAdd, Int.reduceNeg, Int.reduceSub, Int.reduceMul, Int.reduceBEq, Int.reduceBNe, Int.reduceLT, Int.reduceLE, Int.reduceEq, beq_self_eq_true, Int.reducePow, Nat.reducePow, Int.reduceDiv, Nat.reduceLeDiff, reduceCtorEq, Tryz.f209, Tryz.results209, bC260]
  exact h
theorem boolStore_D {b o r : Nat} {cs : List Value} {x : Int} {K : Mem → Prop} (hb : H b = some ⟨true, r, cs⟩) (ho : cs[o]? = some (.int .u32 x)) (hr : o < r) (h : K (H.upd b ⟨true, r, cs.set o (.int .u32 1)⟩)) :
    DefW Tryz.prog 190 #[.pointer (some ⟨b, o, none⟩), .bool true] H K := by
  refine defW_of_pw Tryz.func190 rfl (by decide +kernel) (by simp [Tryz.f190]) ?_
  simp -dsimp -failIfUnchanged (maxSteps := 2000000) (disch := omega) only [VA, if_true_, if_false_, reduceIte, Nat.reduceEqDiff, Nat.reduceAdd, Nat.reduceMul, Nat.reduceSub, Int.reduceToNat, Int.reduceAdd, Int.reduceNeg, Int.reduceSub, Int.reduceMul, Int.reduceBEq, Int.reduceBNe, Int.reduceLT, Int.reduceLE, Int.reduceEq, beq_self_eq_true, Int.reducePow, Nat.reducePow, Int.reduceDiv, Nat.reduceLeDiff, reduceCtorEq, Tryz.f190, Tryz.results190, bC261]
  refine draw_sched (.take 0 (.take 1 (.take 2 (.take 3 (.alt 4 (.alt 5 .done .nil) .nil))))) ?_ ?_ ?_
  · decide +kernel
  · decide +kernel
  simp -dsimp -failIfUnchanged (maxSteps := 2000000) (disch := omega) only [VA, if_true_, if_false_, reduceIte, Nat.reduceEqDiff, Nat.reduceAdd, Nat.reduceMul, Nat.reduceSub, Int.reduceToNat, Int.reduceAdd, Int.reduceNeg, Int.reduceSub, Int.reduceMul, Int.reduceBEq, Int.reduceBNe, Int.reduceLT, Int.reduceLE, Int.reduceEq, beq_self_eq_true, Int.reducePow, Nat.reducePow, Int.reduceDiv, Nat.reduceLeDiff, reduceCtorEq, Tryz.f190, Tryz.results190, bC261, dV0, dV1, dV2, and_true]
  refine b32_W ?_
  simp -dsimp -failIfUnchanged (maxSteps := 2000000) (disch := omega) only [VA, if_true_, if_false_, reduceIte, Nat.reduceEqDiff, Nat.reduceAdd, Nat.reduceMul, Nat.reduceSub, Int.reduceToNat, Int.reduceAdd, Int.reduceNeg, Int.reduceSub, Int.reduceMul, Int.reduceBEq, Int.reduceBNe, Int.reduceLT, Int.reduceLE, Int.reduceEq, beq_self_eq_true, Int.reducePow, Nat.reducePow, Int.reduceDiv, Nat.reduceLeDiff, reduceCtorEq, Tryz.f190, Tryz.results190, bC261, dV0, dV1, dV2, and_true]
  refine storeU_W hb ho hr ?_
  simp -dsimp -failIfUnchanged (maxSteps := 2000000) (disch := omega) only [VA, if_true_, if_false_, reduceIte, Nat.reduceEqDiff, Nat.reduceAdd, Nat.reduceMul, Nat.reduceSub, Int.reduceToNat, Int.reduceAdd, Int.reduceNeg, Int.reduceSub, Int.reduceMul, Int.reduceBEq, Int.reduceBNe, Int.reduceLT, Int.reduceLE, Int.reduceEq, beq_self_eq_true, Int.reducePow, Nat.reducePow, Int.reduceDiv, Nat.reduceLeDiff, reduceCtorEq, Tryz.f190, Tryz.results190, bC261, dV0, dV1, dV2, and_true, endD]
  exact ⟨trivial, h⟩
end Go.Proofs.YtgkolnknobgcmaaGreat
end
section
namespace Go.Proofs.YtgkolnknobgcmaaGreat
open Go Go.Proofs.YtgkolnknobgcmaaGreatV Go.Shelf
set_option maxRecDepth 20000
set_option linter.unusedSimpArgs false
set_option linter.unusedVariables false
set_option maxHeartbeats 4000000
theorem bC270 : type_of% @Tryz.underlying4 ∧ type_of% @ty4 ∧ type_of% @zero4 ∧ type_of% @Tryz.underlying141 ∧ type_of% @elt141 ∧ type_of% @fld141_0 ∧ type_of% @fld141_1 ∧ type_of% @flds141 ∧ type_of% @ty141 ∧ type_of% @zero141 ∧ type_of% @Tryz.underlying145 ∧ type_of% @elt145 ∧ type_of% @fld145_0 ∧ type_of% @fld145_1 ∧ type_of% @flds145 ∧ type_of% @ty145 ∧ type_of% @zero145 ∧ type_of% @Tryz.underlying147 ∧ type_of% @elt147 ∧ type_of% @fld147_0 ∧ type_of% @fld147_1 ∧ type_of% @fld147_2 ∧ type_of% @flds147 ∧ type_of% @ty147 ∧ type_of% @zero147 ∧ type_of% @Tryz.ntmps168 := ⟨@Tryz.underlying4, @ty4, @zero4, @Tryz.underlying141, @elt141, @fld141_0, @fld141_1, @flds141, @ty141, @zero141, @Tryz.underlying145, @elt145, @fld145_0, @fld145_1, @flds145, @ty145, @zero145, @Tryz.underlying147, @elt147, @fld147_0, @fld147_1, @fld147_2, @flds147, @ty147, @zero147, @Tryz.ntmps168⟩
theorem bC271 : type_of% @Tryz.underlying1 ∧ type_of% @ty1 ∧ type_of% @Tryz.underlying141 ∧ type_of% @elt141 ∧ type_of% @fld141_0 ∧ type_of% @fld141_1 ∧ type_of% @flds141 ∧ type_of% @ty141 ∧ type_of% @zero141 ∧ type_of% @Tryz.underlying147 ∧ type_of% @elt147 ∧ type_of% @fld147_0 ∧ type_of% @fld147_1 ∧ type_of% @fld147_2 ∧ type_of% @flds147 ∧ type_of% @ty147 ∧ type_of% @zero147 ∧ type_of% @Tryz.underlying272 ∧ type_of% @ty272 ∧ type_of% @zero272 ∧ type_of% @Tryz.ntmps108 := ⟨@Tryz.underlying1, @ty1, @Tryz.underlying141, @elt141, @fld141_0, @fld141_1, @flds141, @ty141, @zero141, @Tryz.underlying147, @elt147, @fld147_0, @fld147_1, @fld147_2, @flds147, @ty147, @zero147, @Tryz.underlying272, @ty272, @zero272, @Tryz.ntmps108⟩
theorem bC272 : type_of% @Tryz.underlying25 ∧ type_of% @ty25 ∧ type_of% @zero25 ∧ type_of% @Tryz.underlying48 ∧ type_of% @einf48 ∧ type_of% @elt48 ∧ type_of% @ty48 ∧ type_of% @zero48 ∧ type_of% @Tryz.underlying149 ∧ type_of% @elt149 ∧ type_of% @fld149_0 ∧ type_of% @fld149_1 ∧ type_of% @fld149_2 ∧ type_of% @flds149 ∧ type_of% @ty149 ∧ type_of% @zero149 ∧ type_of% @Tryz.ntmps109 := ⟨@Tryz.underlying25, @ty25, @zero25, @Tryz.underlying48, @einf48, @elt48, @ty48, @zero48, @Tryz.underlying149, @elt149, @fld149_0, @fld149_1, @fld149_2, @flds149, @ty149, @zero149, @Tryz.ntmps109⟩
theorem bC273 : type_of% @Tryz.underlying1 ∧ type_of% @ty1 ∧ type_of% @Tryz.underlying9 ∧ type_of% @ty9 ∧ type_of% @zero9 ∧ type_of% @Tryz.underlying25 ∧ type_of% @ty25 ∧ type_of% @zero25 ∧ type_of% @Tryz.underlying48 ∧ type_of% @einf48 ∧ type_of% @elt48 ∧ type_of% @ty48 ∧ type_of% @zero48 ∧ type_of% @Tryz.underlying147 ∧ type_of% @elt147 ∧ type_of% @fld147_0 ∧ type_of% @fld147_1 ∧ type_of% @fld147_2 ∧ type_of% @flds147 ∧ type_of% @ty147 ∧ type_of% @zero147 ∧ type_of% @Tryz.underlying149 ∧ type_of% @elt149 ∧ type_of% @fld149_0 ∧ type_of% @fld149_1 ∧ type_of% @fld149_2 ∧ type_of% @flds149 ∧ type_of% @ty149 ∧ type_of% @zero149 ∧ type_of% @Tryz.ntmps61 := ⟨@Tryz.underlying1, @ty1, @Tryz.underlying9, @ty9, @zero9, @Tryz.underlying25, @ty25, @zero25, @Tryz.underlying48, @einf48, @elt48, @ty48, @zero48, @Tryz.underlying147, @elt147, @fld147_0, @fld147_1, @fld147_2, @flds147, @ty147, @zero147, @Tryz.underlying149, @elt149, @fld149_0, @fld149_1, @fld149_2, @flds149, @ty149, @zero149, @Tryz.ntmps61⟩
variable {H : Mem} {K : Value → Mem → Prop}

theorem doSlow_W {b r : Nat} {cs : List Value} {g : FuncId} {first cap : Array Value}
    (hb : H b = some ⟨true, r, cs⟩) (h0 : cs[12]? = some (.int .u32 0)) (h1 : cs[13]? = some (.int .i32 0)) (hr : 14 < r)
    (hg : InvW Tryz.prog g (first ++ cap) (H.upd b ⟨true, r, cs.set 13 (.int .i32 1)⟩) (fun _ H' => ∃ cs', H' b = some ⟨true, r, cs'⟩ ∧ cs'[12]? = some (.int .u32 0) ∧ cs'[13]? = some (.int .i32 1) ∧ K (.tuple #[]) (H'.upd b ⟨true, r, (cs'.set 12 (.int .u32 1)).set 13 (.int .i32 0)⟩))) :
    InvW Tryz.prog 168 #[.pointer (some ⟨b, 12, none⟩), .func (.func g) first cap] H K := by
  refine invW_of_defers Tryz.func168 rfl (by decide +kernel) (by simp [Tryz.f168]) ?_
  simp -dsimp -failIfUnchanged (maxSteps := 2000000) (disch := omega) only [VA, if_true_, if_false_, reduceIte, Nat.reduceEqDiff, Nat.reduceAdd, Nat.reduceMul, Nat.reduceSub, Int.reduceToNat, Int.reduceAdd, Int.reduceNeg, Int.reduceSub, Int.reduceMul, Int.reduceBEq, Int.reduceBNe, Int.reduceLT, Int.reduceLE, Int.reduceEq, beq_self_eq_true, Int.reducePow, Nat.reducePow, Int.reduceDiv, Nat.reduceLeDiff, reduceCtorEq, Tryz.f168, Tryz.results168, bC270]
  refine codeW_seq (codeW_pw (by decide +kernel) ?_)
  simp -dsimp -failIfUnchanged (maxSteps := 2000000) (disch := omega) only [VA, if_true_, if_false_, reduceIte, Nat.reduceEqDiff, Nat.reduceAdd, Nat.reduceMul, Nat.reduceSub, Int.reduceToNat, Int.reduceAdd, Int.reduceNeg, Int.reduceSub, Int.reduceMul, Int.reduceBEq, Int.reduceBNe, Int.reduceLT, Int.reduceLE, Int.reduceEq, beq_self_eq_true, Int.reducePow, Nat.reducePow, Int.reduceDiv, Nat.reduceLeDiff, reduceCtorEq, Tryz.f168, Tryz.results168, bC270]
  refine lock_W hb h1 (by omega) ?_
  simp -dsimp -failIfUnchanged (maxSteps := 2000000) (disch := omega) only [VA, if_true_, if_false_, reduceIte, Nat.reduceEqDiff, Nat.reduceAdd, Nat.reduceMul, Nat.reduceSub, Int.reduceToNat, Int.reduceAdd, Int.reduceNeg, Int.reduceSub, Int.reduceMul, Int.reduceBEq, Int.reduceBNe, Int.reduceLT, Int.reduceLE, Int.reduceEq, beq_self_eq_true, Int.reducePow, Nat.reducePow, Int.reduceDiv, Nat.reduceLeDiff, reduceCtorEq, Tryz.f168, Tryz.results168, bC270]
  refine codeW_seq (defer_reg rfl (by decide +kernel) ?_)
  simp -dsimp -failIfUnchanged (maxSteps := 2000000) (disch := omega) only [VA, if_true_, if_false_, reduceIte, Nat.reduceEqDiff, Nat.reduceAdd, Nat.reduceMul, Nat.reduceSub, Int.reduceToNat, Int.reduceAdd, Int.reduceNeg, Int.reduceSub, Int.reduceMul, Int.reduceBEq, Int.reduceBNe, Int.reduceLT, Int.reduceLE, Int.reduceEq, beq_self_eq_true, Int.reducePow, Nat.reducePow, Int.reduceDiv, Nat.reduceLeDiff, reduceCtorEq, Tryz.f168, Tryz.results168, bC270, List.dropLast]
  refine ⟨_, _, _, rfl, ?_⟩
  refine codeW_seq (codeW_pw (by decide +kernel) ?_)
  simp -dsimp -failIfUnchanged (maxSteps := 2000000) (disch := omega) only [VA, if_true_, if_false_, reduceIte, Nat.reduceEqDiff, Nat.reduceAdd, Nat.reduceMul, Nat.reduceSub, Int.reduceToNat, Int.reduceAdd, Int.reduceNeg, Int.reduceSub, Int.reduceMul, Int.reduceBEq, Int.reduceBNe, Int.reduceLT, Int.reduceLE, Int.reduceEq, beq_self_eq_true, Int.reducePow, Nat.reducePow, Int.reduceDiv, Nat.reduceLeDiff, reduceCtorEq, Tryz.f168, Tryz.results168, bC270]
  have hl : 12 < cs.length := (List.getElem?_eq_some_iff.1 h0).1
  have hl3 : 13 < cs.length := (List.getElem?_eq_some_iff.1 h1).1
  refine boolLoad_W (x := 0) (read_cell (rw := true) (r := r) (cs := cs.set 13 (.int .i32 1)) (if_pos rfl) (by rw [List.getElem?_set_ne (by decide)]; exact h0)) ?_
  simp -dsimp -failIfUnchanged (maxSteps := 2000000) (disch := omega) only [VA, if_true_, if_false_, reduceIte, Nat.reduceEqDiff, Nat.reduceAdd, Nat.reduceMul, Nat.reduceSub, Int.reduceToNat, Int.reduceAdd, Int.reduceNeg, Int.reduceSub, Int.reduceMul, Int.reduceBEq, Int.reduceBNe, Int.reduceLT, Int.reduceLE, Int.reduceEq, beq_self_eq_true, Int.reducePow, Nat.reducePow, Int.reduceDiv, Nat.reduceLeDiff, reduceCtorEq, Tryz.f168, Tryz.results168, bC270]
  refine codeW_cond true ?_ ?_
  · simp -dsimp -failIfUnchanged (maxSteps := 2000000) (disch := omega) only [VA, if_true_, if_false_, reduceIte, Nat.reduceEqDiff, Nat.reduceAdd, Nat.reduceMul, Nat.reduceSub, Int.reduceToNat, Int.reduceAdd, Int.reduceNeg, Int.reduceSub, Int.reduceMul, Int.reduceBEq, Int.reduceBNe, Int.reduceLT, Int.reduceLE, Int.reduceEq, beq_self_eq_true, Int.reducePow, Nat.reducePow, Int.reduceDiv, Nat.reduceLeDiff, reduceCtorEq, Tryz.f168, Tryz.results168, bC270]
  refine codeW_seq (defer_reg rfl (by decide +kernel) ?_)
  simp -dsimp -failIfUnchanged (maxSteps := 2000000) (disch := omega) only [VA, if_true_, if_false_, reduceIte, Nat.reduceEqDiff, Nat.reduceAdd, Nat.reduceMul, Nat.reduceSub, Int.reduceToNat, Int.reduceAdd, Int.reduceNeg, Int.reduceSub, Int.reduceMul, Int.reduceBEq, Int.reduceBNe, Int.reduceLT, Int.reduceLE, Int.reduceEq, beq_self_eq_true, Int.reducePow, Nat.reducePow, Int.reduceDiv, Nat.reduceLeDiff, reduceCtorEq, Tryz.f168, Tryz.results168, bC270, List.dropLast]
  refine ⟨_, _, _, rfl, ?_⟩
  refine codeW_pw (by decide +kernel) ?_
  simp -dsimp -failIfUnchanged (maxSteps := 2000000) (disch := omega) only [VA, if_true_, if_false_, reduceIte, Nat.reduceEqDiff, Nat.reduceAdd, Nat.reduceMul, Nat.reduceSub, Int.reduceToNat, Int.reduceAdd, Int.reduceNeg, Int.reduceSub, Int.reduceMul, Int.reduceBEq, Int.reduceBNe, Int.reduceLT, Int.reduceLE, Int.reduceEq, beq_self_eq_true, Int.reducePow, Nat.reducePow, Int.reduceDiv, Nat.reduceLeDiff, reduceCtorEq, Tryz.f168, Tryz.results168, bC270]
  refine InvW.mono hg ?_
  rintro v H' ⟨cs', hb', h2, h3, hk⟩
  simp -dsimp -failIfUnchanged (maxSteps := 2000000) (disch := omega) only [VA, if_true_, if_false_, reduceIte, Nat.reduceEqDiff, Nat.reduceAdd, Nat.reduceMul, Nat.reduceSub, Int.reduceToNat, Int.reduceAdd, Int.reduceNeg, Int.reduceSub, Int.reduceMul, Int.reduceBEq, Int.reduceBNe, Int.reduceLT, Int.reduceLE, Int.reduceEq, beq_self_eq_true, Int.reducePow, Nat.reducePow, Int.reduceDiv, Nat.reduceLeDiff, reduceCtorEq, Tryz.f168, Tryz.results168, bC270, endL, leaveD]
  have hl' : 12 < cs'.length := (List.getElem?_eq_some_iff.1 h2).1
  refine ⟨by decide +kernel, boolStore_D hb' h2 (by omega) ?_⟩
  simp -dsimp -failIfUnchanged (maxSteps := 2000000) (disch := omega) only [VA, if_true_, if_false_, reduceIte, Nat.reduceEqDiff, Nat.reduceAdd, Nat.reduceMul, Nat.reduceSub, Int.reduceToNat, Int.reduceAdd, Int.reduceNeg, Int.reduceSub, Int.reduceMul, Int.reduceBEq, Int.reduceBNe, Int.reduceLT, Int.reduceLE, Int.reduceEq, beq_self_eq_true, Int.reducePow, Nat.reducePow, Int.reduceDiv, Nat.reduceLeDiff, reduceCtorEq, Tryz.f168, Tryz.results168, bC270, endL, leaveD]
  refine ⟨by decide +kernel, unlock_D (if_pos rfl) (by rw [List.getElem?_set_ne (by decide)]; exact h3) (by omega) ?_⟩
  simp -dsimp -failIfUnchanged (maxSteps := 2000000) (disch := omega) only [VA, if_true_, if_false_, reduceIte, Nat.reduceEqDiff, Nat.reduceAdd, Nat.reduceMul, Nat.reduceSub, Int.reduceToNat, Int.reduceAdd, Int.reduceNeg, Int.reduceSub, Int.reduceMul, Int.reduceBEq, Int.reduceBNe, Int.reduceLT, Int.reduceLE, Int.reduceEq, beq_self_eq_true, Int.reducePow, Nat.reducePow, Int.reduceDiv, Nat.reduceLeDiff, reduceCtorEq, Tryz.f168, Tryz.results168, bC270, endL, leaveD, upd_same]
  exact hk
/-- The other cells of a tally whose names lie in block x. -/
def restX (x : Nat) : List Value := [.int .u32 1, .int .i32 0, .int .u32 0, .slice (some ⟨x, 0, none⟩) 12 12]
/-- A tally in block b. -/
def TalX (H : Mem) (b : Nat) (cs : List Int) : Prop :=
  ∃ rest, H b = some ⟨true, 16, tc cs rest⟩ ∧ Tal cs rest ∧ (rest = rest0 ∨ ∃ x, rest = restX x ∧ x ≠ b ∧ H.read ⟨x, 0, none⟩ 12 = some namesC)
theorem Tal.other {cs : List Int} {rest rest' : List Value} (h : Tal cs rest) (hr : rest'.length = 4) : Tal cs rest' := ⟨h.l, hr, h.b⟩
theorem doDone_W {b o : Nat} {ff : Value} (hr : H.read ⟨b, o, none⟩ 1 = some [.int .u32 1]) (h : K (.tuple #[]) H) : InvW Tryz.prog 108 #[.pointer (some ⟨b, o, none⟩), ff] H K := by
  (refine invW_of_pw Tryz.func108 rfl rfl (by decide +kernel) (by simp [Tryz.f108]) ?_); simp -dsimp -failIfUnchanged (maxSteps := 2000000) (disch := omega) only [VA, if_true_, if_false_, reduceIte, Nat.reduceEqDiff, Nat.reduceAdd, Nat.reduceMul, Nat.reduceSub, Int.reduceToNat, Int.reduceAdd, Int.reduceNeg, Int.reduceSub, Int.reduceMul, Int.reduceBEq, Int.reduceBNe, Int.reduceLT, Int.reduceLE, Int.reduceEq, beq_self_eq_true, Int.reducePow, Nat.reducePow, Int.reduceDiv, Nat.reduceLeDiff, reduceCtorEq, Tryz.f108, Tryz.results108, bC271]
  refine boolLoad_W hr ?_
  simp -dsimp -failIfUnchanged (maxSteps := 2000000) (disch := omega) only [VA, if_true_, if_false_, reduceIte, Nat.reduceEqDiff, Nat.reduceAdd, Nat.reduceMul, Nat.reduceSub, Int.reduceToNat, Int.reduceAdd, Int.reduceNeg, Int.reduceSub, Int.reduceMul, Int.reduceBEq, Int.reduceBNe, Int.reduceLT, Int.reduceLE, Int.reduceEq, beq_self_eq_true, Int.reducePow, Nat.reducePow, Int.reduceDiv, Nat.reduceLeDiff, reduceCtorEq, Tryz.f108, Tryz.results108, bC271, _root_.bne, Int.reduceBEq]
  exact h
theorem do_W {b r : Nat} {cs : List Value} {g : FuncId} {first cap : Array Value}
    (hb : H b = some ⟨true, r, cs⟩) (h0 : cs[12]? = some (.int .u32 0)) (h1 : cs[13]? = some (.int .i32 0)) (hr : 14 < r)
    (hg : InvW Tryz.prog g (first ++ cap) (H.upd b ⟨true, r, cs.set 13 (.int .i32 1)⟩) (fun _ H' => ∃ cs', H' b = some ⟨true, r, cs'⟩ ∧ cs'[12]? = some (.int .u32 0) ∧ cs'[13]? = some (.int .i32 1) ∧ K (.tuple #[]) (H'.upd b ⟨true, r, (cs'.set 12 (.int .u32 1)).set 13 (.int .i32 0)⟩))) :
    InvW Tryz.prog 108 #[.pointer (some ⟨b, 12, none⟩), .func (.func g) first cap] H K := by
  (refine invW_of_pw Tryz.func108 rfl rfl (by decide +kernel) (by simp [Tryz.f108]) ?_); simp -dsimp -failIfUnchanged (maxSteps := 2000000) (disch := omega) only [VA, if_true_, if_false_, reduceIte, Nat.reduceEqDiff, Nat.reduceAdd, Nat.reduceMul, Nat.reduceSub, Int.reduceToNat, Int.reduceAdd, Int.reduceNeg, Int.reduceSub, Int.reduceMul, Int.reduceBEq, Int.reduceBNe, Int.reduceLT, Int.reduceLE, Int.reduceEq, beq_self_eq_true, Int.reducePow, Nat.reducePow, Int.reduceDiv, Nat.reduceLeDiff, reduceCtorEq, Tryz.f108, Tryz.results108, bC271]
  refine boolLoad_W (x := 0) (read_cell hb h0) ?_
  simp -dsimp -failIfUnchanged (maxSteps := 2000000) (disch := omega) only [VA, if_true_, if_false_, reduceIte, Nat.reduceEqDiff, Nat.reduceAdd, Nat.reduceMul, Nat.reduceSub, Int.reduceToNat, Int.reduceAdd, Int.reduceNeg, Int.reduceSub, Int.reduceMul, Int.reduceBEq, Int.reduceBNe, Int.reduceLT, Int.reduceLE, Int.reduceEq, beq_self_eq_true, Int.reducePow, Nat.reducePow, Int.reduceDiv, Nat.reduceLeDiff, reduceCtorEq, Tryz.f108, Tryz.results108, bC271, _root_.bne, Int.reduceBEq]
  refine doSlow_W hb h0 h1 hr ?_
  simp -dsimp -failIfUnchanged (maxSteps := 2000000) (disch := omega) only [VA, if_true_, if_false_, reduceIte, Nat.reduceEqDiff, Nat.reduceAdd, Nat.reduceMul, Nat.reduceSub, Int.reduceToNat, Int.reduceAdd, Int.reduceNeg, Int.reduceSub, Int.reduceMul, Int.reduceBEq, Int.reduceBNe, Int.reduceLT, Int.reduceLE, Int.reduceEq, beq_self_eq_true, Int.reducePow, Nat.reducePow, Int.reduceDiv, Nat.reduceLeDiff, reduceCtorEq, Tryz.f108, Tryz.results108, bC271]
  exact hg
theorem place1_W {b y : Nat} {cs : List Value} (hy : H.read ⟨y, 0, none⟩ 1 = some [.pointer (some ⟨b, 0, none⟩)]) (hb : H b = some ⟨true, 16, cs⟩) (hl : cs.length = 16)
    (h : ∀ x, x ≠ b → H x = none → K (.tuple #[]) ((H.upd x ⟨true, 12, namesC⟩).upd b ⟨true, 16, cs.set 15 (.slice (some ⟨x, 0, none⟩) 12 12)⟩)) : InvW Tryz.prog 109 #[.pointer (some ⟨y, 0, none⟩)] H K := by
  (refine invW_of_pw Tryz.func109 rfl rfl (by decide +kernel) (by simp [Tryz.f109]) ?_); simp -dsimp -failIfUnchanged (maxSteps := 2000000) (disch := omega) only [VA, if_true_, if_false_, reduceIte, Nat.reduceEqDiff, Nat.reduceAdd, Nat.reduceMul, Nat.reduceSub, Int.reduceToNat, Int.reduceAdd, Int.reduceNeg, Int.reduceSub, Int.reduceMul, Int.reduceBEq, Int.reduceBNe, Int.reduceLT, Int.reduceLE, Int.reduceEq, beq_self_eq_true, Int.reducePow, Nat.reducePow, Int.reduceDiv, Nat.reduceLeDiff, reduceCtorEq, Tryz.f109, Tryz.results109, bC272]
  refine draw_sched (.alt 0 (.alt 1 (.take 2 (.take 3 (.alt 4 .done .nil))) .nil) (.alt 1 (.alt 0 (.take 2 (.take 3 (.alt 4 .done .nil))) .nil) .nil)) ?_ ?_ ?_
  · decide +kernel
  · decide +kernel
  simp -dsimp -failIfUnchanged (maxSteps := 2000000) (disch := omega) only [VA, if_true_, if_false_, reduceIte, Nat.reduceEqDiff, Nat.reduceAdd, Nat.reduceMul, Nat.reduceSub, Int.reduceToNat, Int.reduceAdd, Int.reduceNeg, Int.reduceSub, Int.reduceMul, Int.reduceBEq, Int.reduceBNe, Int.reduceLT, Int.reduceLE, Int.reduceEq, beq_self_eq_true, Int.reducePow, Nat.reducePow, Int.reduceDiv, Nat.reduceLeDiff, reduceCtorEq, Tryz.f109, Tryz.results109, bC272, dV0, dV1, dV2, and_true, hy]
  have key : ∀ x, H x = none → x ≠ b ∧ x ≠ y := fun x hx => ⟨ne_of_some hx hb, ne_of_read hx hy⟩
  have hwr := fun v => write_cell (v := v) (o := 15) hb (by omega) (by omega)
  refine ⟨names_W fun x hx => ?_, names_W fun x hx => ?_⟩
  · obtain ⟨hxb, hxy⟩ := key x hx
    simp -dsimp -failIfUnchanged (maxSteps := 2000000) (disch := omega) only [VA, if_true_, if_false_, reduceIte, Nat.reduceEqDiff, Nat.reduceAdd, Nat.reduceMul, Nat.reduceSub, Int.reduceToNat, Int.reduceAdd, Int.reduceNeg, Int.reduceSub, Int.reduceMul, Int.reduceBEq, Int.reduceBNe, Int.reduceLT, Int.reduceLE, Int.reduceEq, beq_self_eq_true, Int.reducePow, Nat.reducePow, Int.reduceDiv, Nat.reduceLeDiff, reduceCtorEq, Tryz.f109, Tryz.results109, bC272, dV0, dV1, dV2, and_true, hy, hwr]
    rw [upd_comm hxb]; exact h x hxb hx
  · obtain ⟨hxb, hxy⟩ := key x hx
    have hy' := read_le (Mem.le_upd hx ⟨true, 12, namesC⟩) hy
    simp -dsimp -failIfUnchanged (maxSteps := 2000000) (disch := omega) only [VA, if_true_, if_false_, reduceIte, Nat.reduceEqDiff, Nat.reduceAdd, Nat.reduceMul, Nat.reduceSub, Int.reduceToNat, Int.reduceAdd, Int.reduceNeg, Int.reduceSub, Int.reduceMul, Int.reduceBEq, Int.reduceBNe, Int.reduceLT, Int.reduceLE, Int.reduceEq, beq_self_eq_true, Int.reducePow, Nat.reducePow, Int.reduceDiv, Nat.reduceLeDiff, reduceCtorEq, Tryz.f109, Tryz.results109, bC272, dV0, dV1, dV2, and_true, hy', hwr]
    rw [upd_comm hxb]; exact h x hxb hx
theorem tc_getR {cs : List Int} {rest : List Value} {i : Nat} {v : Value} (hl : cs.length = 12) (h : rest[i]? = some v) : (tc cs rest)[12 + i]? = some v := by
  unfold tc; rw [List.getElem?_append_right (by simp [hl])]; simpa [hl] using h
theorem tc_setR {cs : List Int} {rest : List Value} {i : Nat} {v : Value} (hl : cs.length = 12) : (tc cs rest).set (12 + i) v = tc cs (rest.set i v) := by
  unfold tc; rw [List.set_append_right _ _ (by simp [hl])]; simp [hl]
theorem place_W {b : Nat} {cs : List Int} {s : List UInt8} (hT : TalX H b cs) (h : ∀ H', LeBut b H H' → TalX H' b cs → K (.int .i64 (placeL namesL s)) H') :
    InvW Tryz.prog 61 #[.pointer (some ⟨b, 0, none⟩), .string (bs s)] H K := by
  obtain ⟨rest, hb, ht, hrest⟩ := hT
  (refine invW_of_pw Tryz.func61 rfl rfl (by decide +kernel) (by simp [Tryz.f61]) ?_); simp -dsimp -failIfUnchanged (maxSteps := 2000000) (disch := omega) only [VA, if_true_, if_false_, reduceIte, Nat.reduceEqDiff, Nat.reduceAdd, Nat.reduceMul, Nat.reduceSub, Int.reduceToNat, Int.reduceAdd, Int.reduceNeg, Int.reduceSub, Int.reduceMul, Int.reduceBEq, Int.reduceBNe, Int.reduceLT, Int.reduceLE, Int.reduceEq, beq_self_eq_true, Int.reducePow, Nat.reducePow, Int.reduceDiv, Nat.reduceLeDiff, reduceCtorEq, Tryz.f61, Tryz.results61, bC273]
  intro y hy
  have hyb : y ≠ b := ne_of_some hy hb
  have hby := Ne.symm hyb
  simp -dsimp -failIfUnchanged (maxSteps := 2000000) (disch := omega) only [VA, if_true_, if_false_, reduceIte, Nat.reduceEqDiff, Nat.reduceAdd, Nat.reduceMul, Nat.reduceSub, Int.reduceToNat, Int.reduceAdd, Int.reduceNeg, Int.reduceSub, Int.reduceMul, Int.reduceBEq, Int.reduceBNe, Int.reduceLT, Int.reduceLE, Int.reduceEq, beq_self_eq_true, Int.reducePow, Nat.reducePow, Int.reduceDiv, Nat.reduceLeDiff, reduceCtorEq, Tryz.f61, Tryz.results61, bC273]
  have fin : ∀ (H1 : Mem) (x : Nat), LeBut b (H.upd y ⟨true, 1, [.pointer (some ⟨b, 0, none⟩)]⟩) H1 → x ≠ b → H1 b = some ⟨true, 16, tc cs (restX x)⟩ → H1.read ⟨x, 0, none⟩ 12 = some namesC → LeBut b H H1 ∧ TalX H1 b cs ∧
      H1.read ⟨y, 0, none⟩ 1 = some [.pointer (some ⟨b, 0, none⟩)] ∧ H1.read ⟨b, 15, none⟩ 1 = some [.slice (some ⟨x, 0, none⟩) 12 12] ∧ SrcV 1 H1 (.slice (some ⟨x, 0, none⟩) 12 12) namesL.length (namesL.map fun s => .string (bs s)) := fun H1 x h1 h2 h3 h4 =>
    ⟨(LeBut.of_le (Mem.le_upd hy _)).trans h1, ⟨_, h3, ht.other rfl, .inr ⟨x, rfl, h2, h4⟩⟩, h1.read hyb (by rw [rds]; rfl), read_cell h3 (tc_getR ht.l (i := 3) rfl), .inr ⟨_, 12, rfl, h4⟩⟩
  have hb' : (H.upd y ⟨true, 1, [.pointer (some ⟨b, 0, none⟩)]⟩) b = some ⟨true, 16, tc cs rest⟩ := by rw [upd_none hby]; exact hb
  rcases hrest with rfl | ⟨x, rfl, hxb, hx⟩
  · refine do_W hb' (tc_getR ht.l (i := 0) rfl) (tc_getR ht.l (i := 1) rfl) (by decide) ?_
    rw [tc_setR ht.l (i := 1)]
    refine place1_W (b := b) (by rw [rdn hyb, rds]; rfl) (if_pos rfl) (by simp [tc, ht.l, rest0]) fun x hxb hx => ?_
    rw [upd_comm hxb, upd_same]
    refine ⟨_, if_pos rfl, by rw [tc_setR ht.l (i := 3)]; exact tc_getR ht.l (i := 0) rfl, by rw [tc_setR ht.l (i := 3)]; exact tc_getR ht.l (i := 1) rfl, ?_⟩
    rw [upd_same, tc_setR ht.l (i := 3), tc_setR ht.l (i := 0), tc_setR ht.l (i := 1)]
    rw [show (((rest0.set 1 (.int .i32 1)).set 3 (.slice (some ⟨x, 0, none⟩) 12 12)).set 0 (.int .u32 1)).set 1 (.int .i32 0) = restX x from rfl]
    obtain ⟨f1, f2, f3, f4, f5⟩ := fin _ x (LeBut.upd (LeBut.of_le (Mem.le_upd (by simpa [Mem.upd, hxb] using hx) ⟨true, 12, namesC⟩)) ⟨true, 16, tc cs (restX x)⟩) hxb (if_pos rfl) (by rw [rdn hxb, rds]; rfl)
    generalize ((H.upd y ⟨true, 1, [.pointer (some ⟨b, 0, none⟩)]⟩).upd x ⟨true, 12, namesC⟩).upd b ⟨true, 16, tc cs (restX x)⟩ = H1 at f1 f2 f3 f4 f5 ⊢
    simp -dsimp -failIfUnchanged (maxSteps := 2000000) (disch := omega) only [VA, if_true_, if_false_, reduceIte, Nat.reduceEqDiff, Nat.reduceAdd, Nat.reduceMul, Nat.reduceSub, Int.reduceToNat, Int.reduceAdd, Int.reduceNeg, Int.reduceSub, Int.reduceMul, Int.reduceBEq, Int.reduceBNe, Int.reduceLT, Int.reduceLE, Int.reduceEq, beq_self_eq_true, Int.reducePow, Nat.reducePow, Int.reduceDiv, Nat.reduceLeDiff, reduceCtorEq, Tryz.f61, Tryz.results61, bC273, f3, f4]
    refine index_W f5 (by decide) ?_
    simp -dsimp -failIfUnchanged (maxSteps := 2000000) (disch := omega) only [VA, if_true_, if_false_, reduceIte, Nat.reduceEqDiff, Nat.reduceAdd, Nat.reduceMul, Nat.reduceSub, Int.reduceToNat, Int.reduceAdd, Int.reduceNeg, Int.reduceSub, Int.reduceMul, Int.reduceBEq, Int.reduceBNe, Int.reduceLT, Int.reduceLE, Int.reduceEq, beq_self_eq_true, Int.reducePow, Nat.reducePow, Int.reduceDiv, Nat.reduceLeDiff, reduceCtorEq, Tryz.f61, Tryz.results61, bC273]
    exact h _ f1 f2
  · refine doDone_W (read_cell hb' (tc_getR ht.l (i := 0) rfl)) ?_
    obtain ⟨f1, f2, f3, f4, f5⟩ := fin _ x LeBut.refl hxb hb' (read_le (Mem.le_upd hy _) hx)
    simp -dsimp -failIfUnchanged (maxSteps := 2000000) (disch := omega) only [VA, if_true_, if_false_, reduceIte, Nat.reduceEqDiff, Nat.reduceAdd, Nat.reduceMul, Nat.reduceSub, Int.reduceToNat, Int.reduceAdd, Int.reduceNeg, Int.reduceSub, Int.reduceMul, Int.reduceBEq, Int.reduceBNe, Int.reduceLT, Int.reduceLE, Int.reduceEq, beq_self_eq_true, Int.reducePow, Nat.reducePow, Int.reduceDiv, Nat.reduceLeDiff, reduceCtorEq, Tryz.f61, Tryz.results61, bC273, f3, f4]
    refine index_W f5 (by decide) ?_
    simp -dsimp -failIfUnchanged (maxSteps := 2000000) (disch := omega) only [VA, if_true_, if_false_, reduceIte, Nat.reduceEqDiff, Nat.reduceAdd, Nat.reduceMul, Nat.reduceSub, Int.reduceToNat, Int.reduceAdd, Int.reduceNeg, Int.reduceSub, Int.reduceMul, Int.reduceBEq, Int.reduceBNe, Int.reduceLT, Int.reduceLE, Int.reduceEq, beq_self_eq_true, Int.reducePow, Nat.reducePow, Int.reduceDiv, Nat.reduceLeDiff, reduceCtorEq, Tryz.f61, Tryz.results61, bC273]
    exact h _ f1 f2
end Go.Proofs.YtgkolnknobgcmaaGreat
end
