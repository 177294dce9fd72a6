import Derived.Test.YtgkolnknobgcmaaGreatRows
import Derived.HandedShaped
import Derived.Shelf.Vars
import Derived.Test.YtgkolnknobgcmaaGreatPa4
/-! C28, C29, C30, C31, C32, C33 -/
section
namespace Go.Proofs.YtgkolnknobgcmaaGreat
open Go Go.Proofs.YtgkolnknobgcmaaGreatV Go.Shelf
set_option maxRecDepth 20000
set_option linter.unusedSimpArgs false
set_option linter.unusedVariables false
set_option maxHeartbeats 4000000
theorem bC280 : type_of% @Tryz.underlying149 ∧ type_of% @elt149 ∧ type_of% @fld149_0 ∧ type_of% @fld149_1 ∧ type_of% @fld149_2 ∧ type_of% @flds149 ∧ type_of% @ty149 ∧ type_of% @zero149 ∧ type_of% @Tryz.ntmps12 := ⟨@Tryz.underlying149, @elt149, @fld149_0, @fld149_1, @fld149_2, @flds149, @ty149, @zero149, @Tryz.ntmps12⟩
theorem bC281 : type_of% @Tryz.underlying3 ∧ type_of% @ty3 ∧ type_of% @zero3 ∧ type_of% @Tryz.underlying9 ∧ type_of% @ty9 ∧ type_of% @zero9 ∧ type_of% @Tryz.underlying25 ∧ type_of% @ty25 ∧ type_of% @zero25 ∧ type_of% @Tryz.underlying137 ∧ type_of% @elt137 ∧ type_of% @fld137_0 ∧ type_of% @fld137_1 ∧ type_of% @fld137_2 ∧ type_of% @flds137 ∧ type_of% @ty137 ∧ type_of% @zero137 ∧ type_of% @Tryz.underlying138 ∧ type_of% @elt138 ∧ type_of% @flds138 ∧ type_of% @ty138 ∧ type_of% @zero138 ∧ type_of% @Tryz.underlying149 ∧ type_of% @elt149 ∧ type_of% @fld149_0 ∧ type_of% @fld149_1 ∧ type_of% @fld149_2 ∧ type_of% @flds149 ∧ type_of% @ty149 ∧ type_of% @zero149 ∧ type_of% @Tryz.ntmps22 := ⟨@Tryz.underlying3, @ty3, @zero3, @Tryz.underlying9, @ty9, @zero9, @Tryz.underlying25, @ty25, @zero25, @Tryz.underlying137, @elt137, @fld137_0, @fld137_1, @fld137_2, @flds137, @ty137, @zero137, @Tryz.underlying138, @elt138, @flds138, @ty138, @zero138, @Tryz.underlying149, @elt149, @fld149_0, @fld149_1, @fld149_2, @flds149, @ty149, @zero149, @Tryz.ntmps22⟩
theorem bC282 : type_of% @Tryz.underlying3 ∧ type_of% @ty3 ∧ type_of% @zero3 ∧ type_of% @Tryz.underlying9 ∧ type_of% @ty9 ∧ type_of% @zero9 ∧ type_of% @Tryz.underlying25 ∧ type_of% @ty25 ∧ type_of% @zero25 ∧ type_of% @Tryz.ntmps16 := ⟨@Tryz.underlying3, @ty3, @zero3, @Tryz.underlying9, @ty9, @zero9, @Tryz.underlying25, @ty25, @zero25, @Tryz.ntmps16⟩
theorem bC283 : type_of% @Tryz.underlying3 ∧ type_of% @ty3 ∧ type_of% @zero3 ∧ type_of% @Tryz.underlying5 ∧ type_of% @ty5 ∧ type_of% @zero5 ∧ type_of% @Tryz.underlying9 ∧ type_of% @ty9 ∧ type_of% @zero9 ∧ type_of% @Tryz.underlying25 ∧ type_of% @ty25 ∧ type_of% @zero25 ∧ type_of% @Tryz.underlying30 ∧ type_of% @einf30 ∧ type_of% @elt30 ∧ type_of% @ty30 ∧ type_of% @zero30 ∧ type_of% @Tryz.underlying36 ∧ type_of% @ty36 ∧ type_of% @zero36 ∧ type_of% @Tryz.underlying37 ∧ type_of% @einf37 ∧ type_of% @elt37 ∧ type_of% @ty37 ∧ type_of% @zero37 ∧ type_of% @Tryz.underlying39 ∧ type_of% @elt39 ∧ type_of% @fld39_0 ∧ type_of% @fld39_1 ∧ type_of% @fld39_2 ∧ type_of% @flds39 ∧ type_of% @ty39 ∧ type_of% @zero39 ∧ type_of% @Tryz.underlying64 ∧ type_of% @elt64 ∧ type_of% @fld64_0 ∧ type_of% @fld64_1 ∧ type_of% @fld64_2 ∧ type_of% @fld64_3 ∧ type_of% @fld64_4 ∧ type_of% @fld64_5 ∧ type_of% @fld64_6 ∧ type_of% @fld64_7 ∧ type_of% @flds64 ∧ type_of% @ty64 ∧ type_of% @zero64 ∧ type_of% @Tryz.underlying66 ∧ type_of% @elt66 ∧ type_of% @fld66_0 ∧ type_of% @fld66_1 ∧ type_of% @flds66 ∧ type_of% @ty66 ∧ type_of% @zero66 ∧ type_of% @Tryz.ntmps13 := ⟨@Tryz.underlying3, @ty3, @zero3, @Tryz.underlying5, @ty5, @zero5, @Tryz.underlying9, @ty9, @zero9, @Tryz.underlying25, @ty25, @zero25, @Tryz.underlying30, @einf30, @elt30, @ty30, @zero30, @Tryz.underlying36, @ty36, @zero36, @Tryz.underlying37, @einf37, @elt37, @ty37, @zero37, @Tryz.underlying39, @elt39, @fld39_0, @fld39_1, @fld39_2, @flds39, @ty39, @zero39, @Tryz.underlying64, @elt64, @fld64_0, @fld64_1, @fld64_2, @fld64_3, @fld64_4, @fld64_5, @fld64_6, @fld64_7, @flds64, @ty64, @zero64, @Tryz.underlying66, @elt66, @fld66_0, @fld66_1, @flds66, @ty66, @zero66, @Tryz.ntmps13⟩
theorem bC284 : type_of% @Tryz.underlying3 ∧ type_of% @ty3 ∧ type_of% @zero3 ∧ type_of% @Tryz.underlying9 ∧ type_of% @ty9 ∧ type_of% @zero9 ∧ type_of% @Tryz.underlying25 ∧ type_of% @ty25 ∧ type_of% @zero25 ∧ type_of% @Tryz.underlying46 ∧ type_of% @einf46 ∧ type_of% @elt46 ∧ type_of% @ty46 ∧ type_of% @zero46 ∧ type_of% @Tryz.underlying48 ∧ type_of% @einf48 ∧ type_of% @elt48 ∧ type_of% @ty48 ∧ type_of% @zero48 ∧ type_of% @Tryz.underlying52 ∧ type_of% @elt52 ∧ type_of% @fld52_0 ∧ type_of% @fld52_1 ∧ type_of% @flds52 ∧ type_of% @ty52 ∧ type_of% @zero52 ∧ type_of% @Tryz.underlying137 ∧ type_of% @elt137 ∧ type_of% @fld137_0 ∧ type_of% @fld137_1 ∧ type_of% @fld137_2 ∧ type_of% @flds137 ∧ type_of% @ty137 ∧ type_of% @zero137 ∧ type_of% @Tryz.underlying138 ∧ type_of% @elt138 ∧ type_of% @flds138 ∧ type_of% @ty138 ∧ type_of% @zero138 ∧ type_of% @Tryz.underlying149 ∧ type_of% @elt149 ∧ type_of% @fld149_0 ∧ type_of% @fld149_1 ∧ type_of% @fld149_2 ∧ type_of% @flds149 ∧ type_of% @ty149 ∧ type_of% @zero149 ∧ type_of% @Tryz.ntmps19 := ⟨@Tryz.underlying3, @ty3, @zero3, @Tryz.underlying9, @ty9, @zero9, @Tryz.underlying25, @ty25, @zero25, @Tryz.underlying46, @einf46, @elt46, @ty46, @zero46, @Tryz.underlying48, @einf48, @elt48, @ty48, @zero48, @Tryz.underlying52, @elt52, @fld52_0, @fld52_1, @flds52, @ty52, @zero52, @Tryz.underlying137, @elt137, @fld137_0, @fld137_1, @fld137_2, @flds137, @ty137, @zero137, @Tryz.underlying138, @elt138, @flds138, @ty138, @zero138, @Tryz.underlying149, @elt149, @fld149_0, @fld149_1, @fld149_2, @flds149, @ty149, @zero149, @Tryz.ntmps19⟩
theorem bC285 : type_of% @Tryz.underlying3 ∧ type_of% @ty3 ∧ type_of% @zero3 ∧ type_of% @Tryz.underlying25 ∧ type_of% @ty25 ∧ type_of% @zero25 ∧ type_of% @Tryz.underlying137 ∧ type_of% @elt137 ∧ type_of% @fld137_0 ∧ type_of% @fld137_1 ∧ type_of% @fld137_2 ∧ type_of% @flds137 ∧ type_of% @ty137 ∧ type_of% @zero137 ∧ type_of% @Tryz.underlying138 ∧ type_of% @elt138 ∧ type_of% @flds138 ∧ type_of% @ty138 ∧ type_of% @zero138 ∧ type_of% @Tryz.underlying149 ∧ type_of% @elt149 ∧ type_of% @fld149_0 ∧ type_of% @fld149_1 ∧ type_of% @fld149_2 ∧ type_of% @flds149 ∧ type_of% @ty149 ∧ type_of% @zero149 ∧ type_of% @Tryz.ntmps24 := ⟨@Tryz.underlying3, @ty3, @zero3, @Tryz.underlying25, @ty25, @zero25, @Tryz.underlying137, @elt137, @fld137_0, @fld137_1, @fld137_2, @flds137, @ty137, @zero137, @Tryz.underlying138, @elt138, @flds138, @ty138, @zero138, @Tryz.underlying149, @elt149, @fld149_0, @fld149_1, @fld149_2, @flds149, @ty149, @zero149, @Tryz.ntmps24⟩
variable {H : Mem} {K : Value → Mem → Prop}

/-- A tally in block b (of which more may be known). -/
def TalAt (H : Mem) (b : Nat) (cs : List Int) : Prop :=
  ∃ rest B, H b = some B ∧ Blk.le ⟨true, 16, tc cs rest⟩ B ∧ Tal cs rest ∧ (rest = rest0 ∨ ∃ x, rest = restX x ∧ x ≠ b ∧ H.read ⟨x, 0, none⟩ 12 = some namesC)
theorem TalX.at {b : Nat} {cs : List Int} (h : TalX H b cs) : TalAt H b cs := by
  obtain ⟨rest, h1, h2, h3⟩ := h
  exact ⟨rest, _, h1, Blk.le_refl _, h2, h3⟩
theorem TalAt.elim {b : Nat} {cs : List Int} (h : TalAt H b cs) : ∃ H0, H0.le H ∧ LeBut b H H0 ∧ TalX H0 b cs := by
  obtain ⟨rest, B, h1, h2, h3, h4⟩ := h
  refine ⟨(H.del b).upd b ⟨true, 16, tc cs rest⟩, ⟨fun x C hC => ?_, fun _ _ h => h, fun _ h => h, fun _ _ h => h⟩, ⟨fun x C hx hC => ⟨C, ?_, C.le_refl⟩, fun _ _ h => h, fun _ h => h, fun _ _ h => h⟩, rest, if_pos rfl, h3, ?_⟩
  · by_cases hx : x = b
    · subst hx
      simp only [Mem.upd, if_true, Option.some.injEq] at hC
      subst hC
      exact ⟨B, h1, h2⟩
    · simp only [Mem.upd, Mem.del, hx, if_false] at hC
      exact ⟨C, hC, C.le_refl⟩
  · simp only [Mem.upd, Mem.del, hx, if_false]; exact hC
  · rcases h4 with rfl | ⟨x, rfl, hxb, hx⟩
    · exact .inl rfl
    · refine .inr ⟨x, rfl, hxb, ?_⟩
      rw [rdn hxb]
      simpa [Mem.read, Mem.del, hxb] using hx
theorem TalAt.keep {H' : Mem} {b o : Nat} {cs ds : List Int} (hb : TalAt H b cs) (ho : TalAt H o ds) (hne : o ≠ b) (k : LeBut b H H') : TalAt H' o ds := by
  obtain ⟨rest, B, h1, h2, h3, h4⟩ := ho
  obtain ⟨B', hB, hp⟩ := k.1 o _ hne h1
  refine ⟨rest, B', hB, Blk.le_trans h2 hp, h3, ?_⟩
  rcases h4 with rfl | ⟨x, rfl, hxb, hx⟩
  · exact .inl rfl
  · refine .inr ⟨x, rfl, hxb, k.read (a := ⟨x, 0, none⟩) ?_ hx⟩
    rintro rfl
    obtain ⟨rb, C, g1, g2, g3, _⟩ := hb
    obtain ⟨b', o', B2, hab, hB2, hle, hcs⟩ := read_parts hx
    cases hab
    obtain rfl : C = B2 := Option.some.inj (g1.symm.trans hB2)
    have e0 : C.cs[0]? = some (.string (bs (namesL[0]?.getD []))) := by
      have := congrArg (·[0]?) hcs
      simp only [List.drop_zero] at this
      rw [List.getElem?_take] at this
      simpa [namesC, namesL] using this.symm
    have e1 : C.cs[0]? = some (.int .i64 (cs[0]?.getD 0)) := by
      obtain ⟨t, ht⟩ := g2.1
      rw [← ht, List.getElem?_append_left (by simp [tc, g3.l]; omega)]
      exact tc_get g3 (by decide)
    rw [e0] at e1; cases e1
theorem newT_W (h : ∀ b H', H b = none → H.le H' → TalAt H' b zeros12 → H'.pl b → K (.pointer (some ⟨b, 0, none⟩)) H') : InvW Tryz.prog 12 #[] H K := by
  refine invW_of_defers Tryz.func12 rfl (by decide +kernel) (by simp [Tryz.f12]) ?_
  simp -dsimp -failIfUnchanged (maxSteps := 2000000) (disch := omega) only [VA, if_true_, if_false_, reduceIte, Nat.reduceEqDiff, Nat.reduceAdd, Nat.reduceMul, Nat.reduceSub, Int.reduceToNat, Int.reduceAdd, Int.reduceNeg, Int.reduceSub, Int.reduceMul, Int.reduceBEq, Int.reduceBNe, Int.reduceLT, Int.reduceLE, Int.reduceEq, beq_self_eq_true, Int.reducePow, Nat.reducePow, Int.reduceDiv, Nat.reduceLeDiff, reduceCtorEq, Tryz.f12, Tryz.results12, bC280]
  refine codeW_seq (codeW_pw (by decide +kernel) ?_)
  simp -dsimp -failIfUnchanged (maxSteps := 2000000) (disch := omega) only [VA, if_true_, if_false_, reduceIte, Nat.reduceEqDiff, Nat.reduceAdd, Nat.reduceMul, Nat.reduceSub, Int.reduceToNat, Int.reduceAdd, Int.reduceNeg, Int.reduceSub, Int.reduceMul, Int.reduceBEq, Int.reduceBNe, Int.reduceLT, Int.reduceLE, Int.reduceEq, beq_self_eq_true, Int.reducePow, Nat.reducePow, Int.reduceDiv, Nat.reduceLeDiff, reduceCtorEq, Tryz.f12, Tryz.results12, bC280]
  refine codeW_seq (mark_region 1 rfl (by decide +kernel) ?_)
  simp -dsimp -failIfUnchanged (maxSteps := 2000000) (disch := omega) only [VA, if_true_, if_false_, reduceIte, Nat.reduceEqDiff, Nat.reduceAdd, Nat.reduceMul, Nat.reduceSub, Int.reduceToNat, Int.reduceAdd, Int.reduceNeg, Int.reduceSub, Int.reduceMul, Int.reduceBEq, Int.reduceBNe, Int.reduceLT, Int.reduceLE, Int.reduceEq, beq_self_eq_true, Int.reducePow, Nat.reducePow, Int.reduceDiv, Nat.reduceLeDiff, reduceCtorEq, Tryz.f12, Tryz.results12, bC280, List.take, List.drop]
  intro m hm hmp
  simp -dsimp -failIfUnchanged (maxSteps := 2000000) (disch := omega) only [VA, if_true_, if_false_, reduceIte, Nat.reduceEqDiff, Nat.reduceAdd, Nat.reduceMul, Nat.reduceSub, Int.reduceToNat, Int.reduceAdd, Int.reduceNeg, Int.reduceSub, Int.reduceMul, Int.reduceBEq, Int.reduceBNe, Int.reduceLT, Int.reduceLE, Int.reduceEq, beq_self_eq_true, Int.reducePow, Nat.reducePow, Int.reduceDiv, Nat.reduceLeDiff, reduceCtorEq, Tryz.f12, Tryz.results12, bC280]
  refine codeW_pw (by decide +kernel) ?_
  simp -dsimp -failIfUnchanged (maxSteps := 2000000) (disch := omega) only [VA, if_true_, if_false_, reduceIte, Nat.reduceEqDiff, Nat.reduceAdd, Nat.reduceMul, Nat.reduceSub, Int.reduceToNat, Int.reduceAdd, Int.reduceNeg, Int.reduceSub, Int.reduceMul, Int.reduceBEq, Int.reduceBNe, Int.reduceLT, Int.reduceLE, Int.reduceEq, beq_self_eq_true, Int.reducePow, Nat.reducePow, Int.reduceDiv, Nat.reduceLeDiff, reduceCtorEq, Tryz.f12, Tryz.results12, bC280, endL, leaveD]
  exact h m _ hm (Mem.le_mark (Mem.le_upd hm _) hmp _) (TalX.at ⟨rest0, if_pos rfl, tal0, .inl rfl⟩) mark_pl
theorem more_at {b i : Nat} {cs : List Int} {n : Int} (hT : TalAt H b cs) (hi : i < 12) (hn : 0 ≤ n) (h : ∀ H', LeBut b H H' → TalAt H' b (addAt cs i n) → K (.tuple #[]) H') :
    InvW Tryz.prog 53 #[.pointer (some ⟨b, 0, none⟩), .int .i64 i, .int .i64 n] H K := by
  obtain ⟨H0, hle, hbut, rest, hb, ht, hrest⟩ := hT.elim
  refine InvW.from hle ?_
  refine moreT_W hb ht hi hn (h _ (hbut.trans (LeBut.upd LeBut.refl _)) (TalX.at ⟨rest, if_pos rfl, ht.add hi hn, ?_⟩))
  rcases hrest with rfl | ⟨x, rfl, hxb, hx⟩
  · exact .inl rfl
  · exact .inr ⟨x, rfl, hxb, by rw [rdn hxb]; exact hx⟩
theorem place_at {b : Nat} {cs : List Int} {s : List UInt8} (hT : TalAt H b cs) (h : ∀ H', LeBut b H H' → TalAt H' b cs → K (.int .i64 (placeL namesL s)) H') :
    InvW Tryz.prog 61 #[.pointer (some ⟨b, 0, none⟩), .string (bs s)] H K := by
  obtain ⟨H0, hle, hbut, hX⟩ := hT.elim
  exact InvW.from hle (place_W hX fun H' hl hT' => h H' (hbut.trans hl) hT'.at)
theorem TalAt.tal {b : Nat} {cs : List Int} (h : TalAt H b cs) : ∃ rest, Tal cs rest := let ⟨rest, _, _, _, h2, _⟩ := h; ⟨rest, h2⟩
theorem TalAt.cell {b i : Nat} {cs : List Int} (h : TalAt H b cs) (hi : i < 12) : H.read ⟨b, i, none⟩ 1 = some [.int .i64 (cs[i]?.getD 0)] := by
  obtain ⟨H0, hle, _, rest, hb, ht, _⟩ := h.elim
  exact read_le hle (read_cell hb (tc_get ht hi))
/-- What Get tells. -/
def getP (cs : List Int) (s : List UInt8) : Int := if placeL namesL s = -1 then 0 else cs[(placeL namesL s).toNat]?.getD 0
def addOk (s : List UInt8) (n : Int) : Bool := decide (0 ≤ n) && !(placeL namesL s == -1)
def addP (cs : List Int) (s : List UInt8) (n : Int) : List Int := if addOk s n = true then addAt cs (placeL namesL s).toNat n else cs
theorem placeL_cases : ∀ (l : List (List UInt8)) (s : List UInt8), placeL l s = -1 ∨ ∃ i : Nat, i < l.length ∧ placeL l s = i ∧ l[i]? = some s
  | [], s => .inl rfl
  | x :: l, s => by
    unfold placeL
    by_cases h : s = x
    · subst h; exact .inr ⟨0, by simp, by simp, by simp⟩
    · rw [if_neg h]
      rcases placeL_cases l s with h1 | ⟨i, h1, h2, h3⟩
      · rw [if_pos h1]; exact .inl rfl
      · rw [if_neg (by omega)]
        exact .inr ⟨i + 1, by simp; omega, by rw [h2]; rfl, by simpa using h3⟩
theorem getT_W {b : Nat} {cs : List Int} {s : List UInt8} (hT : TalAt H b cs) (h : ∀ H', LeBut b H H' → TalAt H' b cs → K (.int .i64 (getP cs s)) H') :
    InvW Tryz.prog 22 #[.pointer (some ⟨b, 0, none⟩), .string (bs s)] H K := by
  (refine invW_of_pw Tryz.func22 rfl rfl (by decide +kernel) (by simp [Tryz.f22]) ?_); simp -dsimp -failIfUnchanged (maxSteps := 2000000) (disch := omega) only [VA, if_true_, if_false_, reduceIte, Nat.reduceEqDiff, Nat.reduceAdd, Nat.reduceMul, Nat.reduceSub, Int.reduceToNat, Int.reduceAdd, Int.reduceNeg, Int.reduceSub, Int.reduceMul, Int.reduceBEq, Int.reduceBNe, Int.reduceLT, Int.reduceLE, Int.reduceEq, beq_self_eq_true, Int.reducePow, Nat.reducePow, Int.reduceDiv, Nat.reduceLeDiff, reduceCtorEq, Tryz.f22, Tryz.results22, bC281, Option.isNone_some]
  refine place_at hT fun H' hl hT' => ?_
  rcases placeL_cases namesL s with hp | ⟨i, hi, hp, _⟩
  · have h' := h H' hl hT'
    unfold getP at h'
    rw [if_pos hp] at h'
    simp -dsimp -failIfUnchanged (maxSteps := 2000000) (disch := omega) only [VA, if_true_, if_false_, reduceIte, Nat.reduceEqDiff, Nat.reduceAdd, Nat.reduceMul, Nat.reduceSub, Int.reduceToNat, Int.reduceAdd, Int.reduceNeg, Int.reduceSub, Int.reduceMul, Int.reduceBEq, Int.reduceBNe, Int.reduceLT, Int.reduceLE, Int.reduceEq, beq_self_eq_true, Int.reducePow, Nat.reducePow, Int.reduceDiv, Nat.reduceLeDiff, reduceCtorEq, Tryz.f22, Tryz.results22, bC281, hp, Int.reduceBEq]
    exact h'
  · have h' := h H' hl hT'
    unfold getP at h'
    rw [if_neg (by omega), hp, Int.toNat_natCast] at h'
    have hq : ((i : Int) == -1) = false := beq_eq_false_iff_ne.2 (by omega)
    have hi' : (i : Int) < 12 := by have : namesL.length = 12 := rfl; omega
    simp -dsimp -failIfUnchanged (maxSteps := 2000000) (disch := omega) only [VA, if_true_, if_false_, reduceIte, Nat.reduceEqDiff, Nat.reduceAdd, Nat.reduceMul, Nat.reduceSub, Int.reduceToNat, Int.reduceAdd, Int.reduceNeg, Int.reduceSub, Int.reduceMul, Int.reduceBEq, Int.reduceBNe, Int.reduceLT, Int.reduceLE, Int.reduceEq, beq_self_eq_true, Int.reducePow, Nat.reducePow, Int.reduceDiv, Nat.reduceLeDiff, reduceCtorEq, Tryz.f22, Tryz.results22, bC281, hp, hq, Int.toNat_natCast, Nat.zero_add, Nat.mul_one]
    refine loadR_W (hT'.cell (by omega)) ?_
    simp -dsimp -failIfUnchanged (maxSteps := 2000000) (disch := omega) only [VA, if_true_, if_false_, reduceIte, Nat.reduceEqDiff, Nat.reduceAdd, Nat.reduceMul, Nat.reduceSub, Int.reduceToNat, Int.reduceAdd, Int.reduceNeg, Int.reduceSub, Int.reduceMul, Int.reduceBEq, Int.reduceBNe, Int.reduceLT, Int.reduceLE, Int.reduceEq, beq_self_eq_true, Int.reducePow, Nat.reducePow, Int.reduceDiv, Nat.reduceLeDiff, reduceCtorEq, Tryz.f22, Tryz.results22, bC281]
    exact h'
theorem getN_W {s : List UInt8} (h : K (.int .i64 0) H) : InvW Tryz.prog 22 #[.pointer none, .string (bs s)] H K := by
  (refine invW_of_pw Tryz.func22 rfl rfl (by decide +kernel) (by simp [Tryz.f22]) ?_); simp -dsimp -failIfUnchanged (maxSteps := 2000000) (disch := omega) only [VA, if_true_, if_false_, reduceIte, Nat.reduceEqDiff, Nat.reduceAdd, Nat.reduceMul, Nat.reduceSub, Int.reduceToNat, Int.reduceAdd, Int.reduceNeg, Int.reduceSub, Int.reduceMul, Int.reduceBEq, Int.reduceBNe, Int.reduceLT, Int.reduceLE, Int.reduceEq, beq_self_eq_true, Int.reducePow, Nat.reducePow, Int.reduceDiv, Nat.reduceLeDiff, reduceCtorEq, Tryz.f22, Tryz.results22, bC281, Option.isNone_none]
  exact h
theorem addT_W {b : Nat} {cs : List Int} {s : List UInt8} {n : Int} (hT : TalAt H b cs) (h : ∀ H', LeBut b H H' → TalAt H' b (addP cs s n) → K (.bool (addOk s n)) H') :
    InvW Tryz.prog 16 #[.pointer (some ⟨b, 0, none⟩), .string (bs s), .int .i64 n] H K := by
  cases hn : decide (n < 0)
  · have hn' := of_decide_eq_false hn
    (refine invW_of_pw Tryz.func16 rfl rfl (by decide +kernel) (by simp [Tryz.f16]) ?_); simp -dsimp -failIfUnchanged (maxSteps := 2000000) (disch := omega) only [VA, if_true_, if_false_, reduceIte, Nat.reduceEqDiff, Nat.reduceAdd, Nat.reduceMul, Nat.reduceSub, Int.reduceToNat, Int.reduceAdd, Int.reduceNeg, Int.reduceSub, Int.reduceMul, Int.reduceBEq, Int.reduceBNe, Int.reduceLT, Int.reduceLE, Int.reduceEq, beq_self_eq_true, Int.reducePow, Nat.reducePow, Int.reduceDiv, Nat.reduceLeDiff, reduceCtorEq, Tryz.f16, Tryz.results16, bC282, Option.isNone_some, hn]
    refine place_at hT fun H' hl hT' => ?_
    rcases placeL_cases namesL s with hp | ⟨i, hi, hp, _⟩
    · have h1 : addOk s n = false := by simp [addOk, hp]
      rw [show addP cs s n = cs from by simp [addP, h1], h1] at h
      simp -dsimp -failIfUnchanged (maxSteps := 2000000) (disch := omega) only [VA, if_true_, if_false_, reduceIte, Nat.reduceEqDiff, Nat.reduceAdd, Nat.reduceMul, Nat.reduceSub, Int.reduceToNat, Int.reduceAdd, Int.reduceNeg, Int.reduceSub, Int.reduceMul, Int.reduceBEq, Int.reduceBNe, Int.reduceLT, Int.reduceLE, Int.reduceEq, beq_self_eq_true, Int.reducePow, Nat.reducePow, Int.reduceDiv, Nat.reduceLeDiff, reduceCtorEq, Tryz.f16, Tryz.results16, bC282, hp, Int.reduceBEq]
      exact h _ hl hT'
    · have h1 : addOk s n = true := by simp [addOk, hp]; omega
      rw [show addP cs s n = addAt cs i n from by simp [addP, h1, hp], h1] at h
      have hq : ((i : Int) == -1) = false := beq_eq_false_iff_ne.2 (by omega)
      have : namesL.length = 12 := rfl
      simp -dsimp -failIfUnchanged (maxSteps := 2000000) (disch := omega) only [VA, if_true_, if_false_, reduceIte, Nat.reduceEqDiff, Nat.reduceAdd, Nat.reduceMul, Nat.reduceSub, Int.reduceToNat, Int.reduceAdd, Int.reduceNeg, Int.reduceSub, Int.reduceMul, Int.reduceBEq, Int.reduceBNe, Int.reduceLT, Int.reduceLE, Int.reduceEq, beq_self_eq_true, Int.reducePow, Nat.reducePow, Int.reduceDiv, Nat.reduceLeDiff, reduceCtorEq, Tryz.f16, Tryz.results16, bC282, hp, hq]
      refine more_at hT' (by omega) (by omega) fun H2 hl2 hT2 => ?_
      simp -dsimp -failIfUnchanged (maxSteps := 2000000) (disch := omega) only [VA, if_true_, if_false_, reduceIte, Nat.reduceEqDiff, Nat.reduceAdd, Nat.reduceMul, Nat.reduceSub, Int.reduceToNat, Int.reduceAdd, Int.reduceNeg, Int.reduceSub, Int.reduceMul, Int.reduceBEq, Int.reduceBNe, Int.reduceLT, Int.reduceLE, Int.reduceEq, beq_self_eq_true, Int.reducePow, Nat.reducePow, Int.reduceDiv, Nat.reduceLeDiff, reduceCtorEq, Tryz.f16, Tryz.results16, bC282]
      exact h _ (hl.trans hl2) hT2
  · have hn' := of_decide_eq_true hn
    have h1 : addOk s n = false := by simp [addOk]; omega
    rw [show addP cs s n = cs from by simp [addP, h1], h1] at h
    (refine invW_of_pw Tryz.func16 rfl rfl (by decide +kernel) (by simp [Tryz.f16]) ?_); simp -dsimp -failIfUnchanged (maxSteps := 2000000) (disch := omega) only [VA, if_true_, if_false_, reduceIte, Nat.reduceEqDiff, Nat.reduceAdd, Nat.reduceMul, Nat.reduceSub, Int.reduceToNat, Int.reduceAdd, Int.reduceNeg, Int.reduceSub, Int.reduceMul, Int.reduceBEq, Int.reduceBNe, Int.reduceLT, Int.reduceLE, Int.reduceEq, beq_self_eq_true, Int.reducePow, Nat.reducePow, Int.reduceDiv, Nat.reduceLeDiff, reduceCtorEq, Tryz.f16, Tryz.results16, bC282, Option.isNone_some, hn]
    exact h _ LeBut.refl hT
theorem addN_W {s : List UInt8} {n : Int} (h : K (.bool false) H) : InvW Tryz.prog 16 #[.pointer none, .string (bs s), .int .i64 n] H K := by
  (refine invW_of_pw Tryz.func16 rfl rfl (by decide +kernel) (by simp [Tryz.f16]) ?_); simp -dsimp -failIfUnchanged (maxSteps := 2000000) (disch := omega) only [VA, if_true_, if_false_, reduceIte, Nat.reduceEqDiff, Nat.reduceAdd, Nat.reduceMul, Nat.reduceSub, Int.reduceToNat, Int.reduceAdd, Int.reduceNeg, Int.reduceSub, Int.reduceMul, Int.reduceBEq, Int.reduceBNe, Int.reduceLT, Int.reduceLE, Int.reduceEq, beq_self_eq_true, Int.reducePow, Nat.reducePow, Int.reduceDiv, Nat.reduceLeDiff, reduceCtorEq, Tryz.f16, Tryz.results16, bC282, Option.isNone_none]
  exact h
theorem noteN_W {r : Value} (h : K (.tuple #[]) H) : InvW Tryz.prog 13 #[.pointer none, r] H K := by
  refine InvW.weak ?_
  (refine invW_of_pw Tryz.func13 rfl rfl (by decide +kernel) (by simp [Tryz.f13]) ?_); simp -dsimp -failIfUnchanged (maxSteps := 2000000) (disch := omega) only [VA, if_true_, if_false_, reduceIte, Nat.reduceEqDiff, Nat.reduceAdd, Nat.reduceMul, Nat.reduceSub, Int.reduceToNat, Int.reduceAdd, Int.reduceNeg, Int.reduceSub, Int.reduceMul, Int.reduceBEq, Int.reduceBNe, Int.reduceLT, Int.reduceLE, Int.reduceEq, beq_self_eq_true, Int.reducePow, Nat.reducePow, Int.reduceDiv, Nat.reduceLeDiff, reduceCtorEq, Tryz.f13, Tryz.results13, bC283, Option.isNone_none]
  intro n hn
  simp -dsimp -failIfUnchanged (maxSteps := 2000000) (disch := omega) only [VA, if_true_, if_false_, reduceIte, Nat.reduceEqDiff, Nat.reduceAdd, Nat.reduceMul, Nat.reduceSub, Int.reduceToNat, Int.reduceAdd, Int.reduceNeg, Int.reduceSub, Int.reduceMul, Int.reduceBEq, Int.reduceBNe, Int.reduceLT, Int.reduceLE, Int.reduceEq, beq_self_eq_true, Int.reducePow, Nat.reducePow, Int.reduceDiv, Nat.reduceLeDiff, reduceCtorEq, Tryz.f13, Tryz.results13, bC283, Option.isNone_none]
  exact ⟨_, Mem.le_upd hn _, h⟩
theorem listN_W (h : K (.slice none 0 0) H) : InvW Tryz.prog 19 #[.pointer none] H K := by
  (refine invW_of_pw Tryz.func19 rfl rfl (by decide +kernel) (by simp [Tryz.f19]) ?_); simp -dsimp -failIfUnchanged (maxSteps := 2000000) (disch := omega) only [VA, if_true_, if_false_, reduceIte, Nat.reduceEqDiff, Nat.reduceAdd, Nat.reduceMul, Nat.reduceSub, Int.reduceToNat, Int.reduceAdd, Int.reduceNeg, Int.reduceSub, Int.reduceMul, Int.reduceBEq, Int.reduceBNe, Int.reduceLT, Int.reduceLE, Int.reduceEq, beq_self_eq_true, Int.reducePow, Nat.reducePow, Int.reduceDiv, Nat.reduceLeDiff, reduceCtorEq, Tryz.f19, Tryz.results19, bC284, Option.isNone_none]
  exact h
/-- What Join leaves, from place i on, k places. -/
def joinF (cs ds : List Int) : Nat → Nat → List Int
  | _, 0 => cs
  | i, k + 1 => joinF (addAt cs i (ds[i]?.getD 0)) ds (i + 1) k
def joinL (cs ds : List Int) : List Int := joinF cs ds 0 12
theorem joinN_W {v : Value} {a : Option Addr} (hv : v = .pointer a) (h : K (.bool false) H) : InvW Tryz.prog 24 #[.pointer none, v] H K := by
  subst hv
  (refine invW_of_pw Tryz.func24 rfl rfl (by decide +kernel) (by simp [Tryz.f24]) ?_); simp -dsimp -failIfUnchanged (maxSteps := 2000000) (disch := omega) only [VA, if_true_, if_false_, reduceIte, Nat.reduceEqDiff, Nat.reduceAdd, Nat.reduceMul, Nat.reduceSub, Int.reduceToNat, Int.reduceAdd, Int.reduceNeg, Int.reduceSub, Int.reduceMul, Int.reduceBEq, Int.reduceBNe, Int.reduceLT, Int.reduceLE, Int.reduceEq, beq_self_eq_true, Int.reducePow, Nat.reducePow, Int.reduceDiv, Nat.reduceLeDiff, reduceCtorEq, Tryz.f24, Tryz.results24, bC285, Option.isNone_none]
  exact h
theorem joinN2_W {a : Addr} (h : K (.bool false) H) : InvW Tryz.prog 24 #[.pointer (some a), .pointer none] H K := by
  (refine invW_of_pw Tryz.func24 rfl rfl (by decide +kernel) (by simp [Tryz.f24]) ?_); simp -dsimp -failIfUnchanged (maxSteps := 2000000) (disch := omega) only [VA, if_true_, if_false_, reduceIte, Nat.reduceEqDiff, Nat.reduceAdd, Nat.reduceMul, Nat.reduceSub, Int.reduceToNat, Int.reduceAdd, Int.reduceNeg, Int.reduceSub, Int.reduceMul, Int.reduceBEq, Int.reduceBNe, Int.reduceLT, Int.reduceLE, Int.reduceEq, beq_self_eq_true, Int.reducePow, Nat.reducePow, Int.reduceDiv, Nat.reduceLeDiff, reduceCtorEq, Tryz.f24, Tryz.results24, bC285, Option.isNone_none, Option.isNone_some]
  exact h
theorem joinS_W {b : Nat} (h : K (.bool false) H) : InvW Tryz.prog 24 #[.pointer (some ⟨b, 0, none⟩), .pointer (some ⟨b, 0, none⟩)] H K := by
  (refine invW_of_pw Tryz.func24 rfl rfl (by decide +kernel) (by simp [Tryz.f24]) ?_); simp -dsimp -failIfUnchanged (maxSteps := 2000000) (disch := omega) only [VA, if_true_, if_false_, reduceIte, Nat.reduceEqDiff, Nat.reduceAdd, Nat.reduceMul, Nat.reduceSub, Int.reduceToNat, Int.reduceAdd, Int.reduceNeg, Int.reduceSub, Int.reduceMul, Int.reduceBEq, Int.reduceBNe, Int.reduceLT, Int.reduceLE, Int.reduceEq, beq_self_eq_true, Int.reducePow, Nat.reducePow, Int.reduceDiv, Nat.reduceLeDiff, reduceCtorEq, Tryz.f24, Tryz.results24, bC285, Option.isNone_none, Option.isNone_some, bin_pp]
  refine semW_eqP (a := ⟨b, 0, none⟩) (b := ⟨b, 0, none⟩) rfl rfl Tryz.underlying25 ty149 (.inl ⟨rfl, ?_⟩)
  simp -dsimp -failIfUnchanged (maxSteps := 2000000) (disch := omega) only [VA, if_true_, if_false_, reduceIte, Nat.reduceEqDiff, Nat.reduceAdd, Nat.reduceMul, Nat.reduceSub, Int.reduceToNat, Int.reduceAdd, Int.reduceNeg, Int.reduceSub, Int.reduceMul, Int.reduceBEq, Int.reduceBNe, Int.reduceLT, Int.reduceLE, Int.reduceEq, beq_self_eq_true, Int.reducePow, Nat.reducePow, Int.reduceDiv, Nat.reduceLeDiff, reduceCtorEq, Tryz.f24, Tryz.results24, bC285]
  exact h
theorem joinT_W {b o : Nat} {cs ds : List Int} (hT : TalAt H b cs) (hO : TalAt H o ds) (hne : o ≠ b) (hpb : H.pl b) (hpo : H.pl o) (h : ∀ H', LeBut b H H' → TalAt H' b (joinL cs ds) → TalAt H' o ds → K (.bool true) H') :
    InvW Tryz.prog 24 #[.pointer (some ⟨b, 0, none⟩), .pointer (some ⟨o, 0, none⟩)] H K := by
  (refine invW_of_pw Tryz.func24 rfl rfl (by decide +kernel) (by simp [Tryz.f24]) ?_); simp -dsimp -failIfUnchanged (maxSteps := 2000000) (disch := omega) only [VA, if_true_, if_false_, reduceIte, Nat.reduceEqDiff, Nat.reduceAdd, Nat.reduceMul, Nat.reduceSub, Int.reduceToNat, Int.reduceAdd, Int.reduceNeg, Int.reduceSub, Int.reduceMul, Int.reduceBEq, Int.reduceBNe, Int.reduceLT, Int.reduceLE, Int.reduceEq, beq_self_eq_true, Int.reducePow, Nat.reducePow, Int.reduceDiv, Nat.reduceLeDiff, reduceCtorEq, Tryz.f24, Tryz.results24, bC285, Option.isNone_none, Option.isNone_some, bin_pp]
  refine semW_eqP (a := ⟨b, 0, none⟩) (b := ⟨o, 0, none⟩) rfl rfl Tryz.underlying25 ty149 (.inr ⟨by intro hh; cases hh; exact hne rfl, hpb, hpo, ?_⟩)
  simp -dsimp -failIfUnchanged (maxSteps := 2000000) (disch := omega) only [VA, if_true_, if_false_, reduceIte, Nat.reduceEqDiff, Nat.reduceAdd, Nat.reduceMul, Nat.reduceSub, Int.reduceToNat, Int.reduceAdd, Int.reduceNeg, Int.reduceSub, Int.reduceMul, Int.reduceBEq, Int.reduceBNe, Int.reduceLT, Int.reduceLE, Int.reduceEq, beq_self_eq_true, Int.reducePow, Nat.reducePow, Int.reduceDiv, Nat.reduceLeDiff, reduceCtorEq, Tryz.f24, Tryz.results24, bC285]
  refine loop_enter (loop_ind ?_ (fun (i : Nat) e1 H1 => e1.ds = [] ∧ e1 0 = .pointer (some ⟨b, 0, none⟩) ∧ e1 1 = .pointer (some ⟨o, 0, none⟩) ∧ e1 17 = .int .i64 i ∧ i ≤ 12 ∧
      LeBut b H H1 ∧ TalAt H1 o ds ∧ ∃ c1, TalAt H1 b c1 ∧ joinF c1 ds i (12 - i) = joinL cs ds) (fun i => 12 - i) ?_ 0 _ _ ?_)
  · decide +kernel
  rotate_left
  · simp -dsimp -failIfUnchanged (maxSteps := 2000000) (disch := omega) only [VA, if_true_, if_false_, reduceIte, Nat.reduceEqDiff, Nat.reduceAdd, Nat.reduceMul, Nat.reduceSub, Int.reduceToNat, Int.reduceAdd, Int.reduceNeg, Int.reduceSub, Int.reduceMul, Int.reduceBEq, Int.reduceBNe, Int.reduceLT, Int.reduceLE, Int.reduceEq, beq_self_eq_true, Int.reducePow, Nat.reducePow, Int.reduceDiv, Nat.reduceLeDiff, reduceCtorEq, Tryz.f24, Tryz.results24, bC285]
    refine ⟨trivial, trivial, trivial, ?_, ?_, LeBut.refl, hO, cs, hT, rfl⟩ <;> first | trivial | rfl | omega
  rintro i e1 H1 ⟨d0, d1, d2, d3, hi, hbut, hO1, c1, hT1, hj⟩ ih
  by_cases hlt : i < 12
  · have q1 : decide ((i : Int) < 12) = true := decide_eq_true (by omega)
    simp -dsimp -failIfUnchanged (maxSteps := 2000000) (disch := omega) only [VA, if_true_, if_false_, reduceIte, Nat.reduceEqDiff, Nat.reduceAdd, Nat.reduceMul, Nat.reduceSub, Int.reduceToNat, Int.reduceAdd, Int.reduceNeg, Int.reduceSub, Int.reduceMul, Int.reduceBEq, Int.reduceBNe, Int.reduceLT, Int.reduceLE, Int.reduceEq, beq_self_eq_true, Int.reducePow, Nat.reducePow, Int.reduceDiv, Nat.reduceLeDiff, reduceCtorEq, Tryz.f24, Tryz.results24, bC285, d0, d1, d2, d3, q1, Int.toNat_natCast, Nat.mul_one, Nat.zero_add]
    refine loadR_W (hO1.cell hlt) ?_
    simp -dsimp -failIfUnchanged (maxSteps := 2000000) (disch := omega) only [VA, if_true_, if_false_, reduceIte, Nat.reduceEqDiff, Nat.reduceAdd, Nat.reduceMul, Nat.reduceSub, Int.reduceToNat, Int.reduceAdd, Int.reduceNeg, Int.reduceSub, Int.reduceMul, Int.reduceBEq, Int.reduceBNe, Int.reduceLT, Int.reduceLE, Int.reduceEq, beq_self_eq_true, Int.reducePow, Nat.reducePow, Int.reduceDiv, Nat.reduceLeDiff, reduceCtorEq, Tryz.f24, Tryz.results24, bC285, d0, d1, d2, d3, q1]
    obtain ⟨rd, td⟩ := hO1.tal
    refine more_at hT1 hlt (td.get i hlt).1 fun H2 hb2 hT2 => ?_
    simp -dsimp -failIfUnchanged (maxSteps := 2000000) (disch := omega) only [VA, if_true_, if_false_, reduceIte, Nat.reduceEqDiff, Nat.reduceAdd, Nat.reduceMul, Nat.reduceSub, Int.reduceToNat, Int.reduceAdd, Int.reduceNeg, Int.reduceSub, Int.reduceMul, Int.reduceBEq, Int.reduceBNe, Int.reduceLT, Int.reduceLE, Int.reduceEq, beq_self_eq_true, Int.reducePow, Nat.reducePow, Int.reduceDiv, Nat.reduceLeDiff, reduceCtorEq, Tryz.f24, Tryz.results24, bC285, d0, d1, d2, d3, q1]
    refine ih (i + 1) _ _ ?_ (by omega)
    simp -dsimp -failIfUnchanged (maxSteps := 2000000) (disch := omega) only [VA, if_true_, if_false_, reduceIte, Nat.reduceEqDiff, Nat.reduceAdd, Nat.reduceMul, Nat.reduceSub, Int.reduceToNat, Int.reduceAdd, Int.reduceNeg, Int.reduceSub, Int.reduceMul, Int.reduceBEq, Int.reduceBNe, Int.reduceLT, Int.reduceLE, Int.reduceEq, beq_self_eq_true, Int.reducePow, Nat.reducePow, Int.reduceDiv, Nat.reduceLeDiff, reduceCtorEq, Tryz.f24, Tryz.results24, bC285, d0, d1, d2, d3]
    refine ⟨trivial, trivial, trivial, by simp, by omega, hbut.trans hb2, hT1.keep hO1 hne hb2, _, hT2, ?_⟩
    rw [← hj, show 12 - i = (12 - (i + 1)) + 1 from by omega]; rfl
  · have q1 : decide ((i : Int) < 12) = false := decide_eq_false (by omega)
    obtain rfl : i = 12 := by omega
    simp -dsimp -failIfUnchanged (maxSteps := 2000000) (disch := omega) only [VA, if_true_, if_false_, reduceIte, Nat.reduceEqDiff, Nat.reduceAdd, Nat.reduceMul, Nat.reduceSub, Int.reduceToNat, Int.reduceAdd, Int.reduceNeg, Int.reduceSub, Int.reduceMul, Int.reduceBEq, Int.reduceBNe, Int.reduceLT, Int.reduceLE, Int.reduceEq, beq_self_eq_true, Int.reducePow, Nat.reducePow, Int.reduceDiv, Nat.reduceLeDiff, reduceCtorEq, Tryz.f24, Tryz.results24, bC285, d0, d1, d2, d3, q1]
    refine h _ hbut ?_ hO1
    rw [← hj]; exact hT1
end Go.Proofs.YtgkolnknobgcmaaGreat
end
section
namespace Go.Proofs.YtgkolnknobgcmaaGreat
open Go Go.Proofs.YtgkolnknobgcmaaGreatV Go.Shelf
set_option maxRecDepth 20000
set_option linter.unusedSimpArgs false
set_option linter.unusedVariables false
set_option maxHeartbeats 4000000
theorem bC290 : type_of% @Tryz.underlying3 ∧ type_of% @ty3 ∧ type_of% @zero3 ∧ type_of% @Tryz.underlying9 ∧ type_of% @ty9 ∧ type_of% @zero9 ∧ type_of% @Tryz.underlying22 ∧ type_of% @einf22 ∧ type_of% @elt22 ∧ type_of% @ty22 ∧ type_of% @zero22 ∧ type_of% @Tryz.underlying29 ∧ type_of% @einf29 ∧ type_of% @elt29 ∧ type_of% @ty29 ∧ type_of% @zero29 ∧ type_of% @Tryz.underlying30 ∧ type_of% @einf30 ∧ type_of% @elt30 ∧ type_of% @ty30 ∧ type_of% @zero30 ∧ type_of% @Tryz.underlying32 ∧ type_of% @elt32 ∧ type_of% @fld32_0 ∧ type_of% @fld32_1 ∧ type_of% @fld32_2 ∧ type_of% @flds32 ∧ type_of% @ty32 ∧ type_of% @zero32 ∧ type_of% @Tryz.underlying34 ∧ type_of% @elt34 ∧ type_of% @fld34_0 ∧ type_of% @fld34_1 ∧ type_of% @fld34_2 ∧ type_of% @flds34 ∧ type_of% @ty34 ∧ type_of% @zero34 ∧ type_of% @Tryz.underlying63 ∧ type_of% @elt63 ∧ type_of% @fld63_0 ∧ type_of% @fld63_1 ∧ type_of% @fld63_2 ∧ type_of% @fld63_3 ∧ type_of% @fld63_4 ∧ type_of% @fld63_5 ∧ type_of% @fld63_6 ∧ type_of% @fld63_7 ∧ type_of% @flds63 ∧ type_of% @ty63 ∧ type_of% @zero63 ∧ type_of% @Tryz.underlying132 ∧ type_of% @elt132 ∧ type_of% @fld132_0 ∧ type_of% @fld132_1 ∧ type_of% @flds132 ∧ type_of% @ty132 ∧ type_of% @zero132 ∧ type_of% @Tryz.ntmps10 := ⟨@Tryz.underlying3, @ty3, @zero3, @Tryz.underlying9, @ty9, @zero9, @Tryz.underlying22, @einf22, @elt22, @ty22, @zero22, @Tryz.underlying29, @einf29, @elt29, @ty29, @zero29, @Tryz.underlying30, @einf30, @elt30, @ty30, @zero30, @Tryz.underlying32, @elt32, @fld32_0, @fld32_1, @fld32_2, @flds32, @ty32, @zero32, @Tryz.underlying34, @elt34, @fld34_0, @fld34_1, @fld34_2, @flds34, @ty34, @zero34, @Tryz.underlying63, @elt63, @fld63_0, @fld63_1, @fld63_2, @fld63_3, @fld63_4, @fld63_5, @fld63_6, @fld63_7, @flds63, @ty63, @zero63, @Tryz.underlying132, @elt132, @fld132_0, @fld132_1, @flds132, @ty132, @zero132, @Tryz.ntmps10⟩
theorem bC291 : type_of% @Tryz.underlying3 ∧ type_of% @ty3 ∧ type_of% @zero3 ∧ type_of% @Tryz.underlying29 ∧ type_of% @einf29 ∧ type_of% @elt29 ∧ type_of% @ty29 ∧ type_of% @zero29 ∧ type_of% @Tryz.underlying30 ∧ type_of% @einf30 ∧ type_of% @elt30 ∧ type_of% @ty30 ∧ type_of% @zero30 ∧ type_of% @Tryz.underlying32 ∧ type_of% @elt32 ∧ type_of% @fld32_0 ∧ type_of% @fld32_1 ∧ type_of% @fld32_2 ∧ type_of% @flds32 ∧ type_of% @ty32 ∧ type_of% @zero32 ∧ type_of% @Tryz.underlying37 ∧ type_of% @einf37 ∧ type_of% @elt37 ∧ type_of% @ty37 ∧ type_of% @zero37 ∧ type_of% @Tryz.underlying39 ∧ type_of% @elt39 ∧ type_of% @fld39_0 ∧ type_of% @fld39_1 ∧ type_of% @fld39_2 ∧ type_of% @flds39 ∧ type_of% @ty39 ∧ type_of% @zero39 ∧ type_of% @Tryz.underlying63 ∧ type_of% @elt63 ∧ type_of% @fld63_0 ∧ type_of% @fld63_1 ∧ type_of% @fld63_2 ∧ type_of% @fld63_3 ∧ type_of% @fld63_4 ∧ type_of% @fld63_5 ∧ type_of% @fld63_6 ∧ type_of% @fld63_7 ∧ type_of% @flds63 ∧ type_of% @ty63 ∧ type_of% @zero63 ∧ type_of% @Tryz.underlying66 ∧ type_of% @elt66 ∧ type_of% @fld66_0 ∧ type_of% @fld66_1 ∧ type_of% @flds66 ∧ type_of% @ty66 ∧ type_of% @zero66 ∧ type_of% @Tryz.underlying132 ∧ type_of% @elt132 ∧ type_of% @fld132_0 ∧ type_of% @fld132_1 ∧ type_of% @flds132 ∧ type_of% @ty132 ∧ type_of% @zero132 ∧ type_of% @Tryz.ntmps14 := ⟨@Tryz.underlying3, @ty3, @zero3, @Tryz.underlying29, @einf29, @elt29, @ty29, @zero29, @Tryz.underlying30, @einf30, @elt30, @ty30, @zero30, @Tryz.underlying32, @elt32, @fld32_0, @fld32_1, @fld32_2, @flds32, @ty32, @zero32, @Tryz.underlying37, @einf37, @elt37, @ty37, @zero37, @Tryz.underlying39, @elt39, @fld39_0, @fld39_1, @fld39_2, @flds39, @ty39, @zero39, @Tryz.underlying63, @elt63, @fld63_0, @fld63_1, @fld63_2, @fld63_3, @fld63_4, @fld63_5, @fld63_6, @fld63_7, @flds63, @ty63, @zero63, @Tryz.underlying66, @elt66, @fld66_0, @fld66_1, @flds66, @ty66, @zero66, @Tryz.underlying132, @elt132, @fld132_0, @fld132_1, @flds132, @ty132, @zero132, @Tryz.ntmps14⟩
variable {H : Mem} {K : Value → Mem → Prop}

theorem note_at {b : Nat} {cs : List Int} {e : Int} {l : List (Int × Stz)} {sv : Value} {sa : Option Addr} {ns sc : Nat} (hB : Base (H.del b)) (hT : TalAt H b cs)
    (hs : ∀ x ∈ l, x.2.small) (hsv : SrcV 9 (H.del b) sv l.length (saidC l)) (hl : l.length < 4294967281)
    (h : ∀ H', LeBut b H H' → TalAt H' b (noteL cs e l ns) → K (.tuple #[]) H') : InvW Tryz.prog 13 #[.pointer (some ⟨b, 0, none⟩), .agg #[.int .i64 e, sv, .slice sa ns sc]] H K := by
  obtain ⟨rest, B, h1, h2, h3, h4⟩ := hT
  have hle : ((H.del b).upd b ⟨true, 16, tc cs rest⟩).le H := ⟨fun x C hC => by
    by_cases hx : x = b
    · subst hx
      simp only [Mem.upd, if_true, Option.some.injEq] at hC
      subst hC
      exact ⟨B, h1, h2⟩
    · simp only [Mem.upd, Mem.del, hx, if_false] at hC
      exact ⟨C, hC, C.le_refl⟩, fun _ _ h => h, fun _ h => h, fun _ _ h => h⟩
  refine InvW.from hle (note_W hB del_get h3 hs hsv hl (h _ ((del_but (Mem.le_upd del_get _))) ?_))
  have hts := foldl_tal (l.map (·.2)) (rest := rest) (cs := addAt (addAt (if e = 0 then addAt cs 0 1 else addAt (addAt cs 0 1) 1 1) 2 l.length) 11 ns) (by
    refine Tal.add (Tal.add ?_ (by decide) (by omega)) (by decide) (by omega)
    split
    · exact h3.add (by decide) (by decide)
    · exact (h3.add (by decide) (by decide)).add (by decide) (by decide))
  refine ⟨rest, _, if_pos rfl, Blk.le_refl _, hts, ?_⟩
  rcases h4 with rfl | ⟨x, rfl, hxb, hx⟩
  · exact .inl rfl
  · refine .inr ⟨x, rfl, hxb, ?_⟩
    rw [rdn hxb]
    simpa [Mem.read, Mem.del, hxb] using hx

/-- An act. -/
structure ActD where
  e : Int
  said : List (Int × Stz)
  sv : Value
  sa : Option Addr
  ns : Nat
  sc : Nat
  name : List UInt8
  n : Int
def ActD.cells (a : ActD) : List Value := [.int .i64 a.e, a.sv, .slice a.sa a.ns a.sc, .string (bs a.name), .int .i64 a.n]
theorem ActD.cells_len (a : ActD) : a.cells.length = 5 := rfl
/-- It lies in memory. -/
def ActD.at (H : Mem) (a : ActD) : Prop := SrcV 9 H a.sv a.said.length (saidC a.said) ∧ -9223372036854775808 ≤ a.n ∧ a.n ≤ 9223372036854775807 ∧ -9223372036854775808 ≤ a.e ∧ a.e ≤ 9223372036854775807
def ActD.few (a : ActD) : Bool := decide (a.said.length ≤ 20) && decide (a.ns ≤ 20) && decide (a.name.length ≤ 20) && a.said.all fun x => lightB x.2
structure ActsAt (H : Mem) (v : Value) (l : List ActD) : Prop where
  v : SrcV 5 H v l.length (l.flatMap ActD.cells)
  a : ∀ a ∈ l, a.at H
def fewB (l : List ActD) : Bool := decide (l.length ≤ 40) && l.all ActD.few
theorem ActsAt.le {H' : Mem} {v : Value} {l : List ActD} (h : ActsAt H v l) (hl : H.le H') : ActsAt H' v l := ⟨h.v.le hl, fun a ha => ⟨(h.a a ha).1.le hl, (h.a a ha).2⟩⟩
theorem saidC_flat (l : List (Int × Stz)) : saidC l = l.flatMap fun x => .int .i64 x.1 :: x.2.cells := rfl
theorem few_W {v : Value} {l : List ActD} (hv : ActsAt H v l) (h : K (.bool (fewB l)) H) : InvW Tryz.prog 10 #[v] H K := by
  obtain ⟨a0, c, rfl⟩ := hv.v.slice
  cases c1 : decide ((40 : Int) < l.length)
  case true =>
    have : fewB l = false := by have := of_decide_eq_true c1; simp [fewB]; omega
    rw [this] at h
    (refine invW_of_pw Tryz.func10 rfl rfl (by decide +kernel) (by simp [Tryz.f10]) ?_); simp -dsimp -failIfUnchanged (maxSteps := 2000000) (disch := omega) only [VA, if_true_, if_false_, reduceIte, Nat.reduceEqDiff, Nat.reduceAdd, Nat.reduceMul, Nat.reduceSub, Int.reduceToNat, Int.reduceAdd, Int.reduceNeg, Int.reduceSub, Int.reduceMul, Int.reduceBEq, Int.reduceBNe, Int.reduceLT, Int.reduceLE, Int.reduceEq, beq_self_eq_true, Int.reducePow, Nat.reducePow, Int.reduceDiv, Nat.reduceLeDiff, reduceCtorEq, Tryz.f10, Tryz.results10, bC290, c1]
    exact h
  have c1' := of_decide_eq_false c1
  (refine invW_of_pw Tryz.func10 rfl rfl (by decide +kernel) (by simp [Tryz.f10]) ?_); simp -dsimp -failIfUnchanged (maxSteps := 2000000) (disch := omega) only [VA, if_true_, if_false_, reduceIte, Nat.reduceEqDiff, Nat.reduceAdd, Nat.reduceMul, Nat.reduceSub, Int.reduceToNat, Int.reduceAdd, Int.reduceNeg, Int.reduceSub, Int.reduceMul, Int.reduceBEq, Int.reduceBNe, Int.reduceLT, Int.reduceLE, Int.reduceEq, beq_self_eq_true, Int.reducePow, Nat.reducePow, Int.reduceDiv, Nat.reduceLeDiff, reduceCtorEq, Tryz.f10, Tryz.results10, bC290, c1]
  refine loop_enter (loop_ind ?_ (fun (i : Nat) e1 H1 => e1.ds = [] ∧ e1 0 = .slice a0 l.length c ∧ e1 3 = .int .i64 i ∧ i ≤ l.length ∧ (l.take i).all ActD.few = true ∧ H1 = H) (fun i => l.length - i) ?_ 0 _ _ ?_)
  · decide +kernel
  rotate_left
  · simp -dsimp -failIfUnchanged (maxSteps := 2000000) (disch := omega) only [VA, if_true_, if_false_, reduceIte, Nat.reduceEqDiff, Nat.reduceAdd, Nat.reduceMul, Nat.reduceSub, Int.reduceToNat, Int.reduceAdd, Int.reduceNeg, Int.reduceSub, Int.reduceMul, Int.reduceBEq, Int.reduceBNe, Int.reduceLT, Int.reduceLE, Int.reduceEq, beq_self_eq_true, Int.reducePow, Nat.reducePow, Int.reduceDiv, Nat.reduceLeDiff, reduceCtorEq, Tryz.f10, Tryz.results10, bC290]
    refine ⟨trivial, trivial, ?_, ?_, ?_, ?_⟩ <;> first | trivial | rfl | omega
  rintro i e1 H1 ⟨d0, d1, d2, hi, hall, rfl⟩ ih
  by_cases hlt : i < l.length
  · have q1 : decide ((i : Int) < l.length) = true := decide_eq_true (by omega)
    obtain ⟨b, o, c', hab, hrd⟩ := hv.v.block (by omega) (by decide)
    cases hab
    obtain ⟨a, ha⟩ : ∃ a, l[i]? = some a := ⟨l[i], by simp⟩
    have r1 := flat_read ActD.cells_len hrd ha (k := 1) (m := 1) (ws := [a.sv]) (by decide) rfl
    have r2 := flat_read ActD.cells_len hrd ha (k := 2) (m := 1) (ws := [.slice a.sa a.ns a.sc]) (by decide) rfl
    have r3 := flat_read ActD.cells_len hrd ha (k := 3) (m := 1) (ws := [.string (bs a.name)]) (by decide) rfl
    have haa := hv.a a (List.mem_of_getElem? ha)
    obtain ⟨as1, cc, hsv⟩ := haa.1.slice
    rw [hsv] at r1
    have hfalse : a.few = false → fewB l = false := fun hf => by
      have : l.all ActD.few = false := by
        rw [List.all_eq_false]
        exact ⟨a, List.mem_of_getElem? ha, by simp [hf]⟩
      simp [fewB, this]
    cases k1 : decide ((20 : Int) < a.said.length) <;> cases k2 : decide ((20 : Int) < a.ns) <;> cases k3 : decide ((20 : Int) < a.name.length)
    case false.false.false =>
      have k1' := of_decide_eq_false k1
      simp -dsimp -failIfUnchanged (maxSteps := 2000000) (disch := omega) only [VA, if_true_, if_false_, reduceIte, Nat.reduceEqDiff, Nat.reduceAdd, Nat.reduceMul, Nat.reduceSub, Int.reduceToNat, Int.reduceAdd, Int.reduceNeg, Int.reduceSub, Int.reduceMul, Int.reduceBEq, Int.reduceBNe, Int.reduceLT, Int.reduceLE, Int.reduceEq, beq_self_eq_true, Int.reducePow, Nat.reducePow, Int.reduceDiv, Nat.reduceLeDiff, reduceCtorEq, Tryz.f10, Tryz.results10, bC290, d0, d1, d2, q1, r1, r2, r3, Int.toNat_natCast, Nat.add_zero, k1, k2, k3]
      refine loop_enter (loop_ind ?_ (fun (k : Nat) e2 H2 => e2.ds = [] ∧ e2 0 = .slice (some ⟨b, o, none⟩) l.length c ∧ e2 3 = .int .i64 i ∧ e2 4 = .int .i64 k ∧ k ≤ a.said.length ∧ (a.said.take k).all (fun x => lightB x.2) = true ∧ H2 = H1) (fun k => a.said.length - k) ?_ 0 _ _ ?_)
      · decide +kernel
      rotate_left
      · simp -dsimp -failIfUnchanged (maxSteps := 2000000) (disch := omega) only [VA, if_true_, if_false_, reduceIte, Nat.reduceEqDiff, Nat.reduceAdd, Nat.reduceMul, Nat.reduceSub, Int.reduceToNat, Int.reduceAdd, Int.reduceNeg, Int.reduceSub, Int.reduceMul, Int.reduceBEq, Int.reduceBNe, Int.reduceLT, Int.reduceLE, Int.reduceEq, beq_self_eq_true, Int.reducePow, Nat.reducePow, Int.reduceDiv, Nat.reduceLeDiff, reduceCtorEq, Tryz.f10, Tryz.results10, bC290, d0, d1, d2]
        refine ⟨trivial, trivial, trivial, ?_, ?_, ?_, ?_⟩ <;> first | trivial | rfl | omega
      rintro k e2 H2 ⟨g0, g1, g2, g3, hk, hal, rfl⟩ ih2
      by_cases hkl : k < a.said.length
      · have q2 : decide ((k : Int) < a.said.length) = true := decide_eq_true (by omega)
        obtain ⟨b2, o2, c2, hab2, hrd2⟩ := SrcV.block (f := fun x : Int × Stz => .int .i64 x.1 :: x.2.cells) haa.1 (by omega) (by decide)
        rw [hsv] at hab2; cases hab2
        obtain ⟨x, hx⟩ : ∃ x, a.said[k]? = some x := ⟨a.said[k], by simp⟩
        obtain ⟨xi, z⟩ := x
        have r4 := flat_read (f := fun x : Int × Stz => .int .i64 x.1 :: x.2.cells) (n := 9) (fun _ => rfl) hrd2 hx (k := 1) (m := 8) (ws := z.cells) (by decide) rfl
        unfold Stz.cells at r4
        simp -dsimp -failIfUnchanged (maxSteps := 2000000) (disch := omega) only [VA, if_true_, if_false_, reduceIte, Nat.reduceEqDiff, Nat.reduceAdd, Nat.reduceMul, Nat.reduceSub, Int.reduceToNat, Int.reduceAdd, Int.reduceNeg, Int.reduceSub, Int.reduceMul, Int.reduceBEq, Int.reduceBNe, Int.reduceLT, Int.reduceLE, Int.reduceEq, beq_self_eq_true, Int.reducePow, Nat.reducePow, Int.reduceDiv, Nat.reduceLeDiff, reduceCtorEq, Tryz.f10, Tryz.results10, bC290, g0, g1, g2, g3, q2, r1, r4, Int.toNat_natCast, Nat.add_zero]
        refine light_W (z := z) ?_
        cases hz : lightB z
        · have hfa : a.few = false := by
            have : (a.said.all fun x => lightB x.2) = false := by
              rw [List.all_eq_false]; exact ⟨_, List.mem_of_getElem? hx, by simp [hz]⟩
            simp [ActD.few, this]
          rw [hfalse hfa] at h
          simp -dsimp -failIfUnchanged (maxSteps := 2000000) (disch := omega) only [VA, if_true_, if_false_, reduceIte, Nat.reduceEqDiff, Nat.reduceAdd, Nat.reduceMul, Nat.reduceSub, Int.reduceToNat, Int.reduceAdd, Int.reduceNeg, Int.reduceSub, Int.reduceMul, Int.reduceBEq, Int.reduceBNe, Int.reduceLT, Int.reduceLE, Int.reduceEq, beq_self_eq_true, Int.reducePow, Nat.reducePow, Int.reduceDiv, Nat.reduceLeDiff, reduceCtorEq, Tryz.f10, Tryz.results10, bC290, g0, g1, g2, g3, hz]
          exact h
        · simp -dsimp -failIfUnchanged (maxSteps := 2000000) (disch := omega) only [VA, if_true_, if_false_, reduceIte, Nat.reduceEqDiff, Nat.reduceAdd, Nat.reduceMul, Nat.reduceSub, Int.reduceToNat, Int.reduceAdd, Int.reduceNeg, Int.reduceSub, Int.reduceMul, Int.reduceBEq, Int.reduceBNe, Int.reduceLT, Int.reduceLE, Int.reduceEq, beq_self_eq_true, Int.reducePow, Nat.reducePow, Int.reduceDiv, Nat.reduceLeDiff, reduceCtorEq, Tryz.f10, Tryz.results10, bC290, g0, g1, g2, g3, hz]
          refine ih2 (k + 1) _ _ ?_ (by omega)
          simp -dsimp -failIfUnchanged (maxSteps := 2000000) (disch := omega) only [VA, if_true_, if_false_, reduceIte, Nat.reduceEqDiff, Nat.reduceAdd, Nat.reduceMul, Nat.reduceSub, Int.reduceToNat, Int.reduceAdd, Int.reduceNeg, Int.reduceSub, Int.reduceMul, Int.reduceBEq, Int.reduceBNe, Int.reduceLT, Int.reduceLE, Int.reduceEq, beq_self_eq_true, Int.reducePow, Nat.reducePow, Int.reduceDiv, Nat.reduceLeDiff, reduceCtorEq, Tryz.f10, Tryz.results10, bC290, g0, g1, g2, g3]
          refine ⟨trivial, trivial, trivial, by simp, by omega, ?_, trivial⟩
          rw [List.take_add_one, hx, List.all_append, hal]; simp [hz]
      · have q2 : decide ((k : Int) < a.said.length) = false := decide_eq_false (by omega)
        obtain rfl : k = a.said.length := by omega
        rw [List.take_length] at hal
        simp -dsimp -failIfUnchanged (maxSteps := 2000000) (disch := omega) only [VA, if_true_, if_false_, reduceIte, Nat.reduceEqDiff, Nat.reduceAdd, Nat.reduceMul, Nat.reduceSub, Int.reduceToNat, Int.reduceAdd, Int.reduceNeg, Int.reduceSub, Int.reduceMul, Int.reduceBEq, Int.reduceBNe, Int.reduceLT, Int.reduceLE, Int.reduceEq, beq_self_eq_true, Int.reducePow, Nat.reducePow, Int.reduceDiv, Nat.reduceLeDiff, reduceCtorEq, Tryz.f10, Tryz.results10, bC290, g0, g1, g2, g3, q2, r1, Int.toNat_natCast, Nat.add_zero]
        refine ih (i + 1) _ _ ?_ (by omega)
        simp -dsimp -failIfUnchanged (maxSteps := 2000000) (disch := omega) only [VA, if_true_, if_false_, reduceIte, Nat.reduceEqDiff, Nat.reduceAdd, Nat.reduceMul, Nat.reduceSub, Int.reduceToNat, Int.reduceAdd, Int.reduceNeg, Int.reduceSub, Int.reduceMul, Int.reduceBEq, Int.reduceBNe, Int.reduceLT, Int.reduceLE, Int.reduceEq, beq_self_eq_true, Int.reducePow, Nat.reducePow, Int.reduceDiv, Nat.reduceLeDiff, reduceCtorEq, Tryz.f10, Tryz.results10, bC290, g0, g1, g2, g3]
        refine ⟨trivial, trivial, by simp, by omega, ?_, trivial⟩
        have hfa : a.few = true := by
          simp only [decide_eq_false_iff_not] at k1 k2 k3
          simp only [ActD.few, hal, Bool.and_true, Bool.and_eq_true, decide_eq_true_eq]
          omega
        rw [List.take_add_one, ha, List.all_append, hall]; simp [hfa]
    all_goals
      have hfa : a.few = false := by
        unfold ActD.few
        simp only [decide_eq_true_eq, decide_eq_false_iff_not, Int.not_lt] at k1 k2 k3
        simp only [Bool.and_eq_false_iff, decide_eq_false_iff_not]
        omega
      rw [hfalse hfa] at h
      simp -dsimp -failIfUnchanged (maxSteps := 2000000) (disch := omega) only [VA, if_true_, if_false_, reduceIte, Nat.reduceEqDiff, Nat.reduceAdd, Nat.reduceMul, Nat.reduceSub, Int.reduceToNat, Int.reduceAdd, Int.reduceNeg, Int.reduceSub, Int.reduceMul, Int.reduceBEq, Int.reduceBNe, Int.reduceLT, Int.reduceLE, Int.reduceEq, beq_self_eq_true, Int.reducePow, Nat.reducePow, Int.reduceDiv, Nat.reduceLeDiff, reduceCtorEq, Tryz.f10, Tryz.results10, bC290, d0, d1, d2, q1, r1, r2, r3, Int.toNat_natCast, Nat.add_zero, k1, k2, k3]
      exact h
  · have q1 : decide ((i : Int) < l.length) = false := decide_eq_false (by omega)
    obtain rfl : i = l.length := by omega
    rw [List.take_length] at hall
    rw [show fewB l = true from by simp [fewB, hall]; omega] at h
    simp -dsimp -failIfUnchanged (maxSteps := 2000000) (disch := omega) only [VA, if_true_, if_false_, reduceIte, Nat.reduceEqDiff, Nat.reduceAdd, Nat.reduceMul, Nat.reduceSub, Int.reduceToNat, Int.reduceAdd, Int.reduceNeg, Int.reduceSub, Int.reduceMul, Int.reduceBEq, Int.reduceBNe, Int.reduceLT, Int.reduceLE, Int.reduceEq, beq_self_eq_true, Int.reducePow, Nat.reducePow, Int.reduceDiv, Nat.reduceLeDiff, reduceCtorEq, Tryz.f10, Tryz.results10, bC290, d0, d1, d2, q1]
    exact h
/-- What result makes of an act's result. -/
theorem result_W {a : ActD} (ha : SrcV 9 H a.sv a.said.length (saidC a.said)) (hl : a.said.length ≤ 4294967)
    (h : ∀ v H', OwnV 9 H v a.said.length (saidC a.said) H' → K (.agg #[.int .i64 a.e, v, .slice a.sa a.ns a.sc]) H') :
    InvW Tryz.prog 14 #[.agg #[.int .i64 a.e, a.sv, .slice a.sa a.ns a.sc]] H K := by
  refine InvW.weak ?_
  obtain ⟨as1, cc, hsv⟩ := ha.slice
  rw [hsv] at ha ⊢
  (refine invW_of_pw Tryz.func14 rfl rfl (by decide +kernel) (by simp [Tryz.f14]) ?_); simp -dsimp -failIfUnchanged (maxSteps := 2000000) (disch := omega) only [VA, if_true_, if_false_, reduceIte, Nat.reduceEqDiff, Nat.reduceAdd, Nat.reduceMul, Nat.reduceSub, Int.reduceToNat, Int.reduceAdd, Int.reduceNeg, Int.reduceSub, Int.reduceMul, Int.reduceBEq, Int.reduceBNe, Int.reduceLT, Int.reduceLE, Int.reduceEq, beq_self_eq_true, Int.reducePow, Nat.reducePow, Int.reduceDiv, Nat.reduceLeDiff, reduceCtorEq, Tryz.f14, Tryz.results14, bC291]
  intro n1 hn1
  simp -dsimp -failIfUnchanged (maxSteps := 2000000) (disch := omega) only [VA, if_true_, if_false_, reduceIte, Nat.reduceEqDiff, Nat.reduceAdd, Nat.reduceMul, Nat.reduceSub, Int.reduceToNat, Int.reduceAdd, Int.reduceNeg, Int.reduceSub, Int.reduceMul, Int.reduceBEq, Int.reduceBNe, Int.reduceLT, Int.reduceLE, Int.reduceEq, beq_self_eq_true, Int.reducePow, Nat.reducePow, Int.reduceDiv, Nat.reduceLeDiff, reduceCtorEq, Tryz.f14, Tryz.results14, bC291]
  intro n2 hn2
  have h12 : n2 ≠ n1 := ne_of_some hn2 (if_pos rfl)
  simp -dsimp -failIfUnchanged (maxSteps := 2000000) (disch := omega) only [VA, if_true_, if_false_, reduceIte, Nat.reduceEqDiff, Nat.reduceAdd, Nat.reduceMul, Nat.reduceSub, Int.reduceToNat, Int.reduceAdd, Int.reduceNeg, Int.reduceSub, Int.reduceMul, Int.reduceBEq, Int.reduceBNe, Int.reduceLT, Int.reduceLE, Int.reduceEq, beq_self_eq_true, Int.reducePow, Nat.reducePow, Int.reduceDiv, Nat.reduceLeDiff, reduceCtorEq, Tryz.f14, Tryz.results14, bC291]
  intro n3 hn3
  have h32 : n3 ≠ n2 := ne_of_some hn3 (if_pos rfl)
  have h31 : n3 ≠ n1 := ne_of_some hn3 (by rw [upd_none (Ne.symm h12)]; exact if_pos rfl)
  simp -dsimp -failIfUnchanged (maxSteps := 2000000) (disch := omega) only [VA, if_true_, if_false_, reduceIte, Nat.reduceEqDiff, Nat.reduceAdd, Nat.reduceMul, Nat.reduceSub, Int.reduceToNat, Int.reduceAdd, Int.reduceNeg, Int.reduceSub, Int.reduceMul, Int.reduceBEq, Int.reduceBNe, Int.reduceLT, Int.reduceLE, Int.reduceEq, beq_self_eq_true, Int.reducePow, Nat.reducePow, Int.reduceDiv, Nat.reduceLeDiff, reduceCtorEq, Tryz.f14, Tryz.results14, bC291]
  have hb1 : ((H.upd n1 ⟨true, 3, [.int .i64 a.e, .slice as1 a.said.length cc, .slice a.sa a.ns a.sc]⟩).upd n2 ⟨true, 3, [.int .i64 0, .slice none 0 0, .slice none 0 0]⟩) n1 = some ⟨true, 3, [.int .i64 a.e, .slice as1 a.said.length cc, .slice a.sa a.ns a.sc]⟩ := by rw [upd_none (Ne.symm h12)]; exact if_pos rfl
  have hb2 : ((H.upd n1 ⟨true, 3, [.int .i64 a.e, .slice as1 a.said.length cc, .slice a.sa a.ns a.sc]⟩).upd n2 ⟨true, 3, [.int .i64 0, .slice none 0 0, .slice none 0 0]⟩) n2 = some ⟨true, 3, [.int .i64 0, .slice none 0 0, .slice none 0 0]⟩ := if_pos rfl
  have hle : H.le ((H.upd n1 ⟨true, 3, [.int .i64 a.e, .slice as1 a.said.length cc, .slice a.sa a.ns a.sc]⟩).upd n2 ⟨true, 3, [.int .i64 0, .slice none 0 0, .slice none 0 0]⟩) := Mem.le_upd' (Mem.le_upd hn1 _) hn2 _
  generalize ((H.upd n1 ⟨true, 3, [.int .i64 a.e, .slice as1 a.said.length cc, .slice a.sa a.ns a.sc]⟩).upd n2 ⟨true, 3, [.int .i64 0, .slice none 0 0, .slice none 0 0]⟩) = Hb at hb1 hb2 hle hn3 ⊢
  refine loop_enter (loop_ind ?_ (fun (i : Nat) e1 H1 => e1.ds = [] ∧ e1 1 = .pointer (some ⟨n1, 0, none⟩) ∧ e1 2 = .pointer (some ⟨n2, 0, none⟩) ∧ e1 3 = .pointer (some ⟨n3, 0, none⟩) ∧ e1 4 = .int .i64 i ∧ i ≤ a.said.length ∧
      ∃ v, OwnV 9 (Hb.upd n3 ⟨true, 3, [.int .i64 a.e, v, .slice a.sa a.ns a.sc]⟩) v i (saidC (a.said.take i)) H1) (fun i => a.said.length - i) ?_ 0 _ _ ?_)
  · decide +kernel
  rotate_left
  · simp -dsimp -failIfUnchanged (maxSteps := 2000000) (disch := omega) only [VA, if_true_, if_false_, reduceIte, Nat.reduceEqDiff, Nat.reduceAdd, Nat.reduceMul, Nat.reduceSub, Int.reduceToNat, Int.reduceAdd, Int.reduceNeg, Int.reduceSub, Int.reduceMul, Int.reduceBEq, Int.reduceBNe, Int.reduceLT, Int.reduceLE, Int.reduceEq, beq_self_eq_true, Int.reducePow, Nat.reducePow, Int.reduceDiv, Nat.reduceLeDiff, reduceCtorEq, Tryz.f14, Tryz.results14, bC291]
    refine ⟨trivial, trivial, trivial, trivial, ?_, ?_, _, OwnV.nil⟩ <;> first | trivial | rfl | omega
  rintro i e1 H1 ⟨d0, d1, d2, d3, d4, hi, v, hov⟩ ih
  obtain ⟨HB, hHB⟩ : ∃ HB, HB = Hb.upd n3 ⟨true, 3, [.int .i64 a.e, v, .slice a.sa a.ns a.sc]⟩ := ⟨_, rfl⟩
  rw [← hHB] at hov
  have hx1 : HB n1 = some ⟨true, 3, [.int .i64 a.e, .slice as1 a.said.length cc, .slice a.sa a.ns a.sc]⟩ := by rw [hHB, upd_none (Ne.symm h31)]; exact hb1
  have hx2 : HB n2 = some ⟨true, 3, [.int .i64 0, .slice none 0 0, .slice none 0 0]⟩ := by rw [hHB, upd_none (Ne.symm h32)]; exact hb2
  have hx3 : HB n3 = some ⟨true, 3, [.int .i64 a.e, v, .slice a.sa a.ns a.sc]⟩ := by rw [hHB]; exact if_pos rfl
  have hHle : H.le HB := by rw [hHB]; exact Mem.le_trans hle (Mem.le_upd hn3 _)
  have r1 := read_cell (i := 1) hx1 rfl
  have r1' := read_le hov.le r1
  have r3 := read_cell (i := 1) hx3 rfl
  obtain ⟨va, vc, rfl⟩ := hov.src.slice
  by_cases hlt : i < a.said.length
  · have q1 : decide ((i : Int) < a.said.length) = true := decide_eq_true (by omega)
    obtain ⟨b, o, c', hab, hrd⟩ := SrcV.block (f := fun x : Int × Stz => .int .i64 x.1 :: x.2.cells) ha (by omega) (by decide)
    cases hab
    obtain ⟨x, hx⟩ : ∃ x, a.said[i]? = some x := ⟨a.said[i], by simp⟩
    obtain ⟨xi, z⟩ := x
    have hrd1 := read_le hHle hrd
    have r4 := flat_read (f := fun x : Int × Stz => .int .i64 x.1 :: x.2.cells) (n := 9) (fun _ => rfl) hrd1 hx (k := 1) (m := 8) (ws := z.cells) (by decide) rfl
    have r5 := flat_read (f := fun x : Int × Stz => .int .i64 x.1 :: x.2.cells) (n := 9) (fun _ => rfl) hrd1 hx (k := 0) (m := 1) (ws := [.int .i64 xi]) (by decide) rfl
    rw [Nat.add_zero] at r5
    unfold Stz.cells at r4
    simp -dsimp -failIfUnchanged (maxSteps := 2000000) (disch := omega) only [VA, if_true_, if_false_, reduceIte, Nat.reduceEqDiff, Nat.reduceAdd, Nat.reduceMul, Nat.reduceSub, Int.reduceToNat, Int.reduceAdd, Int.reduceNeg, Int.reduceSub, Int.reduceMul, Int.reduceBEq, Int.reduceBNe, Int.reduceLT, Int.reduceLE, Int.reduceEq, beq_self_eq_true, Int.reducePow, Nat.reducePow, Int.reduceDiv, Nat.reduceLeDiff, reduceCtorEq, Tryz.f14, Tryz.results14, bC291, d0, d1, d2, d3, d4, q1, r1']
    refine draw_planB (.take 0 (.take 2 (.take 4 (.take 8 (.take 10 (.read 1 (.read 3 (.take 5 (.take 6 (.read 7 (.read 9 (.take 11 (.take 12 (.read 13 (.take 14 (.grow 15 (.grow 16 (.take 17 (.alt 18 .done .nil)) .nil) .nil)))))))))))))))) [1, 3, 7, 9, 13] hov.le ?_ ?_ ?_
    · decide +kernel
    · decide +kernel
    simp -dsimp -failIfUnchanged (maxSteps := 2000000) (disch := omega) only [VA, if_true_, if_false_, reduceIte, Nat.reduceEqDiff, Nat.reduceAdd, Nat.reduceMul, Nat.reduceSub, Int.reduceToNat, Int.reduceAdd, Int.reduceNeg, Int.reduceSub, Int.reduceMul, Int.reduceBEq, Int.reduceBNe, Int.reduceLT, Int.reduceLE, Int.reduceEq, beq_self_eq_true, Int.reducePow, Nat.reducePow, Int.reduceDiv, Nat.reduceLeDiff, reduceCtorEq, Tryz.f14, Tryz.results14, bC291, dV0, dV1, dV2, and_true, d0, d1, d2, d3, d4, r1, r3, r4, r5, Int.toNat_natCast, Nat.add_zero]
    refine semW_build ?_
    simp -dsimp -failIfUnchanged (maxSteps := 2000000) (disch := omega) only [VA, if_true_, if_false_, reduceIte, Nat.reduceEqDiff, Nat.reduceAdd, Nat.reduceMul, Nat.reduceSub, Int.reduceToNat, Int.reduceAdd, Int.reduceNeg, Int.reduceSub, Int.reduceMul, Int.reduceBEq, Int.reduceBNe, Int.reduceLT, Int.reduceLE, Int.reduceEq, beq_self_eq_true, Int.reducePow, Nat.reducePow, Int.reduceDiv, Nat.reduceLeDiff, reduceCtorEq, Tryz.f14, Tryz.results14, bC291, dV0, dV1, dV2, and_true, d0, d1, d2, d3, d4]
    refine build_W (cs := .int .i64 xi :: z.cells) einf37 rfl (by decide) ?_ fun y hy => ⟨Mem.le_trans hov.le (Mem.le_upd hy _), ?_⟩
    · simp -dsimp -failIfUnchanged (maxSteps := 2000000) (disch := omega) only [VA, if_true_, if_false_, reduceIte, Nat.reduceEqDiff, Nat.reduceAdd, Nat.reduceMul, Nat.reduceSub, Int.reduceToNat, Int.reduceAdd, Int.reduceNeg, Int.reduceSub, Int.reduceMul, Int.reduceBEq, Int.reduceBNe, Int.reduceLT, Int.reduceLE, Int.reduceEq, beq_self_eq_true, Int.reducePow, Nat.reducePow, Int.reduceDiv, Nat.reduceLeDiff, reduceCtorEq, Tryz.f14, Tryz.results14, bC291, dV0, dV1, dV2, and_true, zerosL]
      rfl
    simp -dsimp -failIfUnchanged (maxSteps := 2000000) (disch := omega) only [VA, if_true_, if_false_, reduceIte, Nat.reduceEqDiff, Nat.reduceAdd, Nat.reduceMul, Nat.reduceSub, Int.reduceToNat, Int.reduceAdd, Int.reduceNeg, Int.reduceSub, Int.reduceMul, Int.reduceBEq, Int.reduceBNe, Int.reduceLT, Int.reduceLE, Int.reduceEq, beq_self_eq_true, Int.reducePow, Nat.reducePow, Int.reduceDiv, Nat.reduceLeDiff, reduceCtorEq, Tryz.f14, Tryz.results14, bC291, dV0, dV1, dV2, and_true, d0, d1, d2, d3, d4]
    refine semW_append ?_
    simp -dsimp -failIfUnchanged (maxSteps := 2000000) (disch := omega) only [VA, if_true_, if_false_, reduceIte, Nat.reduceEqDiff, Nat.reduceAdd, Nat.reduceMul, Nat.reduceSub, Int.reduceToNat, Int.reduceAdd, Int.reduceNeg, Int.reduceSub, Int.reduceMul, Int.reduceBEq, Int.reduceBNe, Int.reduceLT, Int.reduceLE, Int.reduceEq, beq_self_eq_true, Int.reducePow, Nat.reducePow, Int.reduceDiv, Nat.reduceLeDiff, reduceCtorEq, Tryz.f14, Tryz.results14, bC291, dV0, dV1, dV2, and_true, d0, d1, d2, d3, d4]
    have hsrc : SrcV 9 (H1.upd y ⟨true, (Value.int .i64 xi :: z.cells).length, .int .i64 xi :: z.cells⟩) (.slice (some ⟨y, 0, none⟩) 1 1) 1 (.int .i64 xi :: z.cells) := (OwnV.new (n := 9) (l := 1) (cs := .int .i64 xi :: z.cells) hy rfl).src
    have hyB := le_none hov.le hy
    have hy3 : y ≠ n3 := ne_of_some hyB hx3
    refine append_own einf37 (by decide) rfl (hov.upd hy _) hsrc rfl (by omega) (by omega) fun v' H' ho3 => ⟨Mem.le_trans (Mem.le_upd hyB _) ho3.le, ?_⟩
    obtain ⟨va', vc', rfl⟩ := ho3.src.slice
    have hx3' : (HB.upd y ⟨true, (Value.int .i64 xi :: z.cells).length, .int .i64 xi :: z.cells⟩) n3 = _ := (upd_none (Ne.symm hy3)).trans hx3
    have w3 := write_cell (o := 1) (v := .slice va' (i + 1) vc') (ho3.at hx3') (by simp) (by decide)
    simp -dsimp -failIfUnchanged (maxSteps := 2000000) (disch := omega) only [VA, if_true_, if_false_, reduceIte, Nat.reduceEqDiff, Nat.reduceAdd, Nat.reduceMul, Nat.reduceSub, Int.reduceToNat, Int.reduceAdd, Int.reduceNeg, Int.reduceSub, Int.reduceMul, Int.reduceBEq, Int.reduceBNe, Int.reduceLT, Int.reduceLE, Int.reduceEq, beq_self_eq_true, Int.reducePow, Nat.reducePow, Int.reduceDiv, Nat.reduceLeDiff, reduceCtorEq, Tryz.f14, Tryz.results14, bC291, dV0, dV1, dV2, and_true, d0, d1, d2, d3, d4, w3, List.set]
    have ho4 := ho3.reup hx3' (B' := ⟨true, 3, [.int .i64 a.e, .slice va' (i + 1) vc', .slice a.sa a.ns a.sc]⟩)
    rw [hHB, upd_comm hy3, upd_same, ← upd_comm hy3] at ho4
    obtain ⟨H2, ho5, hle2⟩ := ho4.base (Mem.le_upd (by rw [upd_none hy3]; exact le_none (hHB ▸ Mem.le_upd hn3 _) hyB) _)
    refine LoopW.from hle2 (ih (i + 1) _ _ ?_ (by omega))
    simp -dsimp -failIfUnchanged (maxSteps := 2000000) (disch := omega) only [VA, if_true_, if_false_, reduceIte, Nat.reduceEqDiff, Nat.reduceAdd, Nat.reduceMul, Nat.reduceSub, Int.reduceToNat, Int.reduceAdd, Int.reduceNeg, Int.reduceSub, Int.reduceMul, Int.reduceBEq, Int.reduceBNe, Int.reduceLT, Int.reduceLE, Int.reduceEq, beq_self_eq_true, Int.reducePow, Nat.reducePow, Int.reduceDiv, Nat.reduceLeDiff, reduceCtorEq, Tryz.f14, Tryz.results14, bC291, d0, d1, d2, d3, d4]
    refine ⟨trivial, trivial, trivial, trivial, by simp, by omega, .slice va' (i + 1) vc', ?_⟩
    have e1 : saidC (a.said.take (i + 1)) = saidC (a.said.take i) ++ (.int .i64 xi :: z.cells) := by
      rw [List.take_add_one, hx]; simp [saidC]
    rw [e1]
    exact ho5
  · have q1 : decide ((i : Int) < a.said.length) = false := decide_eq_false (by omega)
    obtain rfl : i = a.said.length := by omega
    rw [List.take_length] at hov
    have r6 := read_le hov.le (read_all hx3 (k := 3) rfl)
    have w2 := write_all (vs := [.int .i64 a.e, .slice va a.said.length vc, .slice a.sa a.ns a.sc]) (hov.at hx2) rfl (by decide)
    simp -dsimp -failIfUnchanged (maxSteps := 2000000) (disch := omega) only [VA, if_true_, if_false_, reduceIte, Nat.reduceEqDiff, Nat.reduceAdd, Nat.reduceMul, Nat.reduceSub, Int.reduceToNat, Int.reduceAdd, Int.reduceNeg, Int.reduceSub, Int.reduceMul, Int.reduceBEq, Int.reduceBNe, Int.reduceLT, Int.reduceLE, Int.reduceEq, beq_self_eq_true, Int.reducePow, Nat.reducePow, Int.reduceDiv, Nat.reduceLeDiff, reduceCtorEq, Tryz.f14, Tryz.results14, bC291, d0, d1, d2, d3, d4, q1, r1', r6, w2]
    have r7 := read_all (H := H1.upd n2 ⟨true, 3, [.int .i64 a.e, .slice va a.said.length vc, .slice a.sa a.ns a.sc]⟩) (b := n2) (k := 3) (if_pos rfl) rfl
    have ho4 := hov.reup hx2 (B' := ⟨true, 3, [.int .i64 a.e, .slice va a.said.length vc, .slice a.sa a.ns a.sc]⟩)
    obtain ⟨H2, ho5, hle2⟩ := ho4.base (le_updN hHle (le_none (Mem.le_upd hn1 _) hn2) _)
    exact ⟨H2, hle2, h _ _ ho5⟩
end Go.Proofs.YtgkolnknobgcmaaGreat
end
section
namespace Go.Proofs.YtgkolnknobgcmaaGreat
open Go Go.Proofs.YtgkolnknobgcmaaGreatV Go.Shelf
set_option maxRecDepth 20000
set_option linter.unusedSimpArgs false
set_option linter.unusedVariables false
set_option maxHeartbeats 4000000
theorem bC300 : type_of% @Tryz.underlying3 ∧ type_of% @ty3 ∧ type_of% @zero3 ∧ type_of% @Tryz.underlying9 ∧ type_of% @ty9 ∧ type_of% @zero9 ∧ type_of% @Tryz.underlying22 ∧ type_of% @einf22 ∧ type_of% @elt22 ∧ type_of% @ty22 ∧ type_of% @zero22 ∧ type_of% @Tryz.underlying25 ∧ type_of% @ty25 ∧ type_of% @zero25 ∧ type_of% @Tryz.underlying32 ∧ type_of% @elt32 ∧ type_of% @fld32_0 ∧ type_of% @fld32_1 ∧ type_of% @fld32_2 ∧ type_of% @flds32 ∧ type_of% @ty32 ∧ type_of% @zero32 ∧ type_of% @Tryz.underlying34 ∧ type_of% @elt34 ∧ type_of% @fld34_0 ∧ type_of% @fld34_1 ∧ type_of% @fld34_2 ∧ type_of% @flds34 ∧ type_of% @ty34 ∧ type_of% @zero34 ∧ type_of% @Tryz.underlying39 ∧ type_of% @elt39 ∧ type_of% @fld39_0 ∧ type_of% @fld39_1 ∧ type_of% @fld39_2 ∧ type_of% @flds39 ∧ type_of% @ty39 ∧ type_of% @zero39 ∧ type_of% @Tryz.ntmps23 := ⟨@Tryz.underlying3, @ty3, @zero3, @Tryz.underlying9, @ty9, @zero9, @Tryz.underlying22, @einf22, @elt22, @ty22, @zero22, @Tryz.underlying25, @ty25, @zero25, @Tryz.underlying32, @elt32, @fld32_0, @fld32_1, @fld32_2, @flds32, @ty32, @zero32, @Tryz.underlying34, @elt34, @fld34_0, @fld34_1, @fld34_2, @flds34, @ty34, @zero34, @Tryz.underlying39, @elt39, @fld39_0, @fld39_1, @fld39_2, @flds39, @ty39, @zero39, @Tryz.ntmps23⟩
variable {H : Mem} {K : Value → Mem → Prop}

theorem TalAt.le {H' : Mem} {b : Nat} {cs : List Int} (h : TalAt H b cs) (hl : H.le H') : TalAt H' b cs := by
  obtain ⟨rest, B, h1, h2, h3, h4⟩ := h
  obtain ⟨B', hB, hp⟩ := hl.1 b _ h1
  refine ⟨rest, B', hB, Blk.le_trans h2 hp, h3, ?_⟩
  rcases h4 with rfl | ⟨x, rfl, hxb, hx⟩
  · exact .inl rfl
  · exact .inr ⟨x, rfl, hxb, read_le hl hx⟩
def actStep (cs : List Int) (a : ActD) : List Int := if a.name = [] then noteL cs a.e a.said a.ns else addP cs a.name a.n
def countL (l : List ActD) : List Int := l.foldl actStep zeros12
theorem ActD.few_small {a : ActD} (h : a.few = true) : a.said.length ≤ 20 ∧ ∀ x ∈ a.said, x.2.small := by
  simp only [ActD.few, Bool.and_eq_true, decide_eq_true_eq] at h
  obtain ⟨⟨⟨h1, _⟩, _⟩, h2⟩ := h
  exact ⟨h1, fun x hx => light_small (List.all_eq_true.1 h2 x hx)⟩
theorem fewB_all {l : List ActD} (h : fewB l = true) : l.length ≤ 40 ∧ ∀ a ∈ l, a.few = true := by
  simp only [fewB, Bool.and_eq_true, decide_eq_true_eq] at h
  exact ⟨h.1, List.all_eq_true.1 h.2⟩
theorem act_note {b : Nat} {cs : List Int} {a : ActD} {H0 : Mem} (hB : Base H0) (hle : H0.le H) (hb0 : H0 b = none) (hT : TalAt H b cs) (ha : a.at H) (hf : a.few = true)
    (h : ∀ H', LeBut b H H' → H0.le H' → TalAt H' b (noteL cs a.e a.said a.ns) → K (.tuple #[]) H') :
    InvW Tryz.prog 14 #[.agg #[.int .i64 a.e, a.sv, .slice a.sa a.ns a.sc]] H (fun v H' => InvW Tryz.prog 13 #[.pointer (some ⟨b, 0, none⟩), v] H' K) := by
  obtain ⟨h1, h2⟩ := hf |> ActD.few_small
  refine result_W ha.1 (by omega) fun v H2 ho => ?_
  obtain ⟨rest, B, hb, _⟩ := id hT
  have hl2 := Mem.le_trans hle ho.le
  refine note_at (hB.le (le_del hl2 hb0)) (hT.le ho.le) h2 (ho.del hb) (by omega) fun H' hbut hT' => ?_
  exact h H' ((LeBut.of_le ho.le).trans hbut) (hbut.le hl2 hb0) hT'
theorem count_W {v : Value} {l : List ActD} (hB : Base H) (hv : ActsAt H v l) (hlen : l.length ≤ 1000) (hall : ∀ a ∈ l, a.few = true)
    (h : ∀ b H', H b = none → H.le H' → TalAt H' b (countL l) → H'.pl b → K (.pointer (some ⟨b, 0, none⟩)) H') : InvW Tryz.prog 23 #[v] H K := by
  obtain ⟨a0, c, rfl⟩ := hv.v.slice
  (refine invW_of_pw Tryz.func23 rfl rfl (by decide +kernel) (by simp [Tryz.f23]) ?_); simp -dsimp -failIfUnchanged (maxSteps := 2000000) (disch := omega) only [VA, if_true_, if_false_, reduceIte, Nat.reduceEqDiff, Nat.reduceAdd, Nat.reduceMul, Nat.reduceSub, Int.reduceToNat, Int.reduceAdd, Int.reduceNeg, Int.reduceSub, Int.reduceMul, Int.reduceBEq, Int.reduceBNe, Int.reduceLT, Int.reduceLE, Int.reduceEq, beq_self_eq_true, Int.reducePow, Nat.reducePow, Int.reduceDiv, Nat.reduceLeDiff, reduceCtorEq, Tryz.f23, Tryz.results23, bC300]
  refine newT_W fun b Hb hb hbl hbT hbp => ?_
  simp -dsimp -failIfUnchanged (maxSteps := 2000000) (disch := omega) only [VA, if_true_, if_false_, reduceIte, Nat.reduceEqDiff, Nat.reduceAdd, Nat.reduceMul, Nat.reduceSub, Int.reduceToNat, Int.reduceAdd, Int.reduceNeg, Int.reduceSub, Int.reduceMul, Int.reduceBEq, Int.reduceBNe, Int.reduceLT, Int.reduceLE, Int.reduceEq, beq_self_eq_true, Int.reducePow, Nat.reducePow, Int.reduceDiv, Nat.reduceLeDiff, reduceCtorEq, Tryz.f23, Tryz.results23, bC300]
  refine loop_enter (loop_ind ?_ (fun (i : Nat) e1 H1 => e1.ds = [] ∧ e1 0 = .slice a0 l.length c ∧ e1 3 = .pointer (some ⟨b, 0, none⟩) ∧ e1 4 = .int .i64 i ∧ i ≤ l.length ∧ H.le H1 ∧ TalAt H1 b ((l.take i).foldl actStep zeros12) ∧ H1.pl b) (fun i => l.length - i) ?_ 0 _ _ ?_)
  · decide +kernel
  rotate_left
  · simp -dsimp -failIfUnchanged (maxSteps := 2000000) (disch := omega) only [VA, if_true_, if_false_, reduceIte, Nat.reduceEqDiff, Nat.reduceAdd, Nat.reduceMul, Nat.reduceSub, Int.reduceToNat, Int.reduceAdd, Int.reduceNeg, Int.reduceSub, Int.reduceMul, Int.reduceBEq, Int.reduceBNe, Int.reduceLT, Int.reduceLE, Int.reduceEq, beq_self_eq_true, Int.reducePow, Nat.reducePow, Int.reduceDiv, Nat.reduceLeDiff, reduceCtorEq, Tryz.f23, Tryz.results23, bC300]
    refine ⟨trivial, trivial, trivial, ?_, ?_, hbl, hbT, hbp⟩ <;> first | trivial | rfl | omega
  rintro i e1 H1 ⟨d0, d1, d2, d3, hi, hle, hT, hp⟩ ih
  by_cases hlt : i < l.length
  · have q1 : decide ((i : Int) < l.length) = true := decide_eq_true (by omega)
    obtain ⟨b1, o, c', hab, hrd⟩ := (hv.le hle).v.block (by omega) (by decide)
    cases hab
    obtain ⟨a, ha⟩ : ∃ a, l[i]? = some a := ⟨l[i], by simp⟩
    have r0 := flat_read ActD.cells_len hrd ha (k := 0) (m := 3) (ws := [.int .i64 a.e, a.sv, .slice a.sa a.ns a.sc]) (by decide) rfl
    rw [Nat.add_zero] at r0
    have r3 := flat_read ActD.cells_len hrd ha (k := 3) (m := 1) (ws := [.string (bs a.name)]) (by decide) rfl
    have r4 := flat_read ActD.cells_len hrd ha (k := 4) (m := 1) (ws := [.int .i64 a.n]) (by decide) rfl
    have haa := (hv.le hle).a a (List.mem_of_getElem? ha)
    have haf := hall a (List.mem_of_getElem? ha)
    have htk : (l.take (i + 1)).foldl actStep zeros12 = actStep ((l.take i).foldl actStep zeros12) a := by
      rw [List.take_add_one, ha]; simp
    generalize (l.take i).foldl actStep zeros12 = ci at hT htk
    cases k1 : decide (a.name = [])
    · have k1' := of_decide_eq_false k1
      rw [show actStep ci a = addP ci a.name a.n from if_neg k1'] at htk
      simp -dsimp -failIfUnchanged (maxSteps := 2000000) (disch := omega) only [VA, if_true_, if_false_, reduceIte, Nat.reduceEqDiff, Nat.reduceAdd, Nat.reduceMul, Nat.reduceSub, Int.reduceToNat, Int.reduceAdd, Int.reduceNeg, Int.reduceSub, Int.reduceMul, Int.reduceBEq, Int.reduceBNe, Int.reduceLT, Int.reduceLE, Int.reduceEq, beq_self_eq_true, Int.reducePow, Nat.reducePow, Int.reduceDiv, Nat.reduceLeDiff, reduceCtorEq, Tryz.f23, Tryz.results23, bC300, d0, d1, d2, d3, q1, r3, Int.toNat_natCast, Nat.add_zero, k1]
      refine draw_plan (.take 0 (.take 1 (.take 2 (.take 3 (.take 4 (.take 6 (.take 7 (.take 8 (.take 9 (.read 5 (.read 10 (.alt 11 .done .nil)))))))))))) [5, 10] ?_ ?_ ?_
      · decide +kernel
      · decide +kernel
      simp -dsimp -failIfUnchanged (maxSteps := 2000000) (disch := omega) only [VA, if_true_, if_false_, reduceIte, Nat.reduceEqDiff, Nat.reduceAdd, Nat.reduceMul, Nat.reduceSub, Int.reduceToNat, Int.reduceAdd, Int.reduceNeg, Int.reduceSub, Int.reduceMul, Int.reduceBEq, Int.reduceBNe, Int.reduceLT, Int.reduceLE, Int.reduceEq, beq_self_eq_true, Int.reducePow, Nat.reducePow, Int.reduceDiv, Nat.reduceLeDiff, reduceCtorEq, Tryz.f23, Tryz.results23, bC300, dV0, dV1, dV2, and_true, d0, d1, d2, d3, r3, r4, Int.toNat_natCast, Nat.add_zero]
      refine addT_W hT fun H2 hbut hT2 => ?_
      simp -dsimp -failIfUnchanged (maxSteps := 2000000) (disch := omega) only [VA, if_true_, if_false_, reduceIte, Nat.reduceEqDiff, Nat.reduceAdd, Nat.reduceMul, Nat.reduceSub, Int.reduceToNat, Int.reduceAdd, Int.reduceNeg, Int.reduceSub, Int.reduceMul, Int.reduceBEq, Int.reduceBNe, Int.reduceLT, Int.reduceLE, Int.reduceEq, beq_self_eq_true, Int.reducePow, Nat.reducePow, Int.reduceDiv, Nat.reduceLeDiff, reduceCtorEq, Tryz.f23, Tryz.results23, bC300, dV0, dV1, dV2, and_true, d0, d1, d2, d3]
      refine ih (i + 1) _ _ ?_ (by omega)
      simp -dsimp -failIfUnchanged (maxSteps := 2000000) (disch := omega) only [VA, if_true_, if_false_, reduceIte, Nat.reduceEqDiff, Nat.reduceAdd, Nat.reduceMul, Nat.reduceSub, Int.reduceToNat, Int.reduceAdd, Int.reduceNeg, Int.reduceSub, Int.reduceMul, Int.reduceBEq, Int.reduceBNe, Int.reduceLT, Int.reduceLE, Int.reduceEq, beq_self_eq_true, Int.reducePow, Nat.reducePow, Int.reduceDiv, Nat.reduceLeDiff, reduceCtorEq, Tryz.f23, Tryz.results23, bC300, d0, d1, d2, d3]
      exact ⟨trivial, trivial, trivial, by simp, by omega, hbut.le hle hb, by rw [htk]; exact hT2, hbut.pl hp⟩
    · have k1' := of_decide_eq_true k1
      rw [show actStep ci a = noteL ci a.e a.said a.ns from if_pos k1'] at htk
      simp -dsimp -failIfUnchanged (maxSteps := 2000000) (disch := omega) only [VA, if_true_, if_false_, reduceIte, Nat.reduceEqDiff, Nat.reduceAdd, Nat.reduceMul, Nat.reduceSub, Int.reduceToNat, Int.reduceAdd, Int.reduceNeg, Int.reduceSub, Int.reduceMul, Int.reduceBEq, Int.reduceBNe, Int.reduceLT, Int.reduceLE, Int.reduceEq, beq_self_eq_true, Int.reducePow, Nat.reducePow, Int.reduceDiv, Nat.reduceLeDiff, reduceCtorEq, Tryz.f23, Tryz.results23, bC300, d0, d1, d2, d3, q1, r0, r3, Int.toNat_natCast, Nat.add_zero, k1]
      refine InvW.mono (act_note (K := fun v H' => v = .tuple #[] ∧ LeBut b H1 H' ∧ H.le H' ∧ TalAt H' b (noteL ci a.e a.said a.ns)) hB hle hb hT haa haf fun H' g1 g2 g3 => ⟨rfl, g1, g2, g3⟩) fun v H2 hinv => ?_
      simp -dsimp -failIfUnchanged (maxSteps := 2000000) (disch := omega) only [VA, if_true_, if_false_, reduceIte, Nat.reduceEqDiff, Nat.reduceAdd, Nat.reduceMul, Nat.reduceSub, Int.reduceToNat, Int.reduceAdd, Int.reduceNeg, Int.reduceSub, Int.reduceMul, Int.reduceBEq, Int.reduceBNe, Int.reduceLT, Int.reduceLE, Int.reduceEq, beq_self_eq_true, Int.reducePow, Nat.reducePow, Int.reduceDiv, Nat.reduceLeDiff, reduceCtorEq, Tryz.f23, Tryz.results23, bC300, d0, d1, d2, d3]
      refine InvW.mono hinv ?_
      rintro v2 H3 ⟨rfl, hbut, hle3, hT3⟩
      simp -dsimp -failIfUnchanged (maxSteps := 2000000) (disch := omega) only [VA, if_true_, if_false_, reduceIte, Nat.reduceEqDiff, Nat.reduceAdd, Nat.reduceMul, Nat.reduceSub, Int.reduceToNat, Int.reduceAdd, Int.reduceNeg, Int.reduceSub, Int.reduceMul, Int.reduceBEq, Int.reduceBNe, Int.reduceLT, Int.reduceLE, Int.reduceEq, beq_self_eq_true, Int.reducePow, Nat.reducePow, Int.reduceDiv, Nat.reduceLeDiff, reduceCtorEq, Tryz.f23, Tryz.results23, bC300, d0, d1, d2, d3]
      refine ih (i + 1) _ _ ?_ (by omega)
      simp -dsimp -failIfUnchanged (maxSteps := 2000000) (disch := omega) only [VA, if_true_, if_false_, reduceIte, Nat.reduceEqDiff, Nat.reduceAdd, Nat.reduceMul, Nat.reduceSub, Int.reduceToNat, Int.reduceAdd, Int.reduceNeg, Int.reduceSub, Int.reduceMul, Int.reduceBEq, Int.reduceBNe, Int.reduceLT, Int.reduceLE, Int.reduceEq, beq_self_eq_true, Int.reducePow, Nat.reducePow, Int.reduceDiv, Nat.reduceLeDiff, reduceCtorEq, Tryz.f23, Tryz.results23, bC300, d0, d1, d2, d3]
      exact ⟨trivial, trivial, trivial, by simp, by omega, hle3, by rw [htk]; exact hT3, hbut.pl hp⟩
  · have q1 : decide ((i : Int) < l.length) = false := decide_eq_false (by omega)
    obtain rfl : i = l.length := by omega
    rw [List.take_length] at hT
    simp -dsimp -failIfUnchanged (maxSteps := 2000000) (disch := omega) only [VA, if_true_, if_false_, reduceIte, Nat.reduceEqDiff, Nat.reduceAdd, Nat.reduceMul, Nat.reduceSub, Int.reduceToNat, Int.reduceAdd, Int.reduceNeg, Int.reduceSub, Int.reduceMul, Int.reduceBEq, Int.reduceBNe, Int.reduceLT, Int.reduceLE, Int.reduceEq, beq_self_eq_true, Int.reducePow, Nat.reducePow, Int.reduceDiv, Nat.reduceLeDiff, reduceCtorEq, Tryz.f23, Tryz.results23, bC300, d0, d1, d2, d3, q1]
    exact h b _ hb hle hT hp
end Go.Proofs.YtgkolnknobgcmaaGreat
end
section
namespace Go.Proofs.YtgkolnknobgcmaaGreat
open Go Go.Proofs.YtgkolnknobgcmaaGreatV Go.Shelf
set_option maxRecDepth 20000
set_option linter.unusedSimpArgs false
set_option linter.unusedVariables false
set_option maxHeartbeats 4000000
theorem bC310 : type_of% @Tryz.underlying3 ∧ type_of% @ty3 ∧ type_of% @zero3 ∧ type_of% @Tryz.underlying9 ∧ type_of% @ty9 ∧ type_of% @zero9 ∧ type_of% @Tryz.underlying25 ∧ type_of% @ty25 ∧ type_of% @zero25 ∧ type_of% @Tryz.underlying30 ∧ type_of% @einf30 ∧ type_of% @elt30 ∧ type_of% @ty30 ∧ type_of% @zero30 ∧ type_of% @Tryz.underlying37 ∧ type_of% @einf37 ∧ type_of% @elt37 ∧ type_of% @ty37 ∧ type_of% @zero37 ∧ type_of% @Tryz.underlying39 ∧ type_of% @elt39 ∧ type_of% @fld39_0 ∧ type_of% @fld39_1 ∧ type_of% @fld39_2 ∧ type_of% @flds39 ∧ type_of% @ty39 ∧ type_of% @zero39 ∧ type_of% @Tryz.underlying46 ∧ type_of% @einf46 ∧ type_of% @elt46 ∧ type_of% @ty46 ∧ type_of% @zero46 ∧ type_of% @Tryz.underlying48 ∧ type_of% @einf48 ∧ type_of% @elt48 ∧ type_of% @ty48 ∧ type_of% @zero48 ∧ type_of% @Tryz.underlying64 ∧ type_of% @elt64 ∧ type_of% @fld64_0 ∧ type_of% @fld64_1 ∧ type_of% @fld64_2 ∧ type_of% @fld64_3 ∧ type_of% @fld64_4 ∧ type_of% @fld64_5 ∧ type_of% @fld64_6 ∧ type_of% @fld64_7 ∧ type_of% @flds64 ∧ type_of% @ty64 ∧ type_of% @zero64 ∧ type_of% @Tryz.underlying66 ∧ type_of% @elt66 ∧ type_of% @fld66_0 ∧ type_of% @fld66_1 ∧ type_of% @flds66 ∧ type_of% @ty66 ∧ type_of% @zero66 ∧ type_of% @Tryz.ntmps11 := ⟨@Tryz.underlying3, @ty3, @zero3, @Tryz.underlying9, @ty9, @zero9, @Tryz.underlying25, @ty25, @zero25, @Tryz.underlying30, @einf30, @elt30, @ty30, @zero30, @Tryz.underlying37, @einf37, @elt37, @ty37, @zero37, @Tryz.underlying39, @elt39, @fld39_0, @fld39_1, @fld39_2, @flds39, @ty39, @zero39, @Tryz.underlying46, @einf46, @elt46, @ty46, @zero46, @Tryz.underlying48, @einf48, @elt48, @ty48, @zero48, @Tryz.underlying64, @elt64, @fld64_0, @fld64_1, @fld64_2, @fld64_3, @fld64_4, @fld64_5, @fld64_6, @fld64_7, @flds64, @ty64, @zero64, @Tryz.underlying66, @elt66, @fld66_0, @fld66_1, @flds66, @ty66, @zero66, @Tryz.ntmps11⟩
variable {H : Mem} {K : Value → Mem → Prop}

theorem list_at {b : Nat} {cs : List Int} (hT : TalAt H b cs) (h : ∀ v H', LeBut b H H' → TalAt H' b cs → SrcV 2 H' v 12 (countC cs 12) → (∃ a c, v = .slice a 12 c) → K v H') :
    InvW Tryz.prog 19 #[.pointer (some ⟨b, 0, none⟩)] H K := by
  obtain ⟨H0, hle, hbut, hX⟩ := hT.elim
  obtain ⟨rest, hb, ht, _⟩ := id hX
  refine InvW.from hle (list_W ht hb fun v H' ho => h v H' (hbut.trans (LeBut.of_le ho.le)) (hX.at.le ho.le) ho.src ho.src.slice)
def zOk : Stz := ⟨32, [], [], [], 0, 0, 0, 0⟩
def zDone : Stz := ⟨37, [], [], [], 0, 0, 0, 0⟩
def zDrop : Stz := ⟨39, [97, 64, 98], [], [], 0, 0, 0, 0⟩
def cW : List Int := [2, 1, 3, 26, 1, 0, 5, 0, 0, 1, 0, 1]
theorem awake_cs : addP (addP (noteL (noteL zeros12 6 [] 1) 0 [(0, zOk), (0, zDone), (0, zDrop)] 0) [115, 101, 101, 110] 5) [110, 111, 110, 101] 5 = cW := by decide +kernel
theorem awake_W (hB : Base H) (h : ∀ H', H.le H' → K (.bool true) H') : InvW Tryz.prog 11 #[] H K := by
  (refine invW_of_pw Tryz.func11 rfl rfl (by decide +kernel) (by simp [Tryz.f11]) ?_); simp -dsimp -failIfUnchanged (maxSteps := 2000000) (disch := omega) only [VA, if_true_, if_false_, reduceIte, Nat.reduceEqDiff, Nat.reduceAdd, Nat.reduceMul, Nat.reduceSub, Int.reduceToNat, Int.reduceAdd, Int.reduceNeg, Int.reduceSub, Int.reduceMul, Int.reduceBEq, Int.reduceBNe, Int.reduceLT, Int.reduceLE, Int.reduceEq, beq_self_eq_true, Int.reducePow, Nat.reducePow, Int.reduceDiv, Nat.reduceLeDiff, reduceCtorEq, Tryz.f11, Tryz.results11, bC310]
  refine newT_W fun b H1 hb hle1 hT1 hp1 => ?_
  simp -dsimp -failIfUnchanged (maxSteps := 2000000) (disch := omega) only [VA, if_true_, if_false_, reduceIte, Nat.reduceEqDiff, Nat.reduceAdd, Nat.reduceMul, Nat.reduceSub, Int.reduceToNat, Int.reduceAdd, Int.reduceNeg, Int.reduceSub, Int.reduceMul, Int.reduceBEq, Int.reduceBNe, Int.reduceLT, Int.reduceLE, Int.reduceEq, beq_self_eq_true, Int.reducePow, Nat.reducePow, Int.reduceDiv, Nat.reduceLeDiff, reduceCtorEq, Tryz.f11, Tryz.results11, bC310, Option.isNone_some]
  refine semW_build ?_
  simp -dsimp -failIfUnchanged (maxSteps := 2000000) (disch := omega) only [VA, if_true_, if_false_, reduceIte, Nat.reduceEqDiff, Nat.reduceAdd, Nat.reduceMul, Nat.reduceSub, Int.reduceToNat, Int.reduceAdd, Int.reduceNeg, Int.reduceSub, Int.reduceMul, Int.reduceBEq, Int.reduceBNe, Int.reduceLT, Int.reduceLE, Int.reduceEq, beq_self_eq_true, Int.reducePow, Nat.reducePow, Int.reduceDiv, Nat.reduceLeDiff, reduceCtorEq, Tryz.f11, Tryz.results11, bC310]
  refine build_W (cs := [.int .i64 4]) einf30 rfl (by decide) ?_ fun y hy => ?_
  · simp -dsimp -failIfUnchanged (maxSteps := 2000000) (disch := omega) only [VA, if_true_, if_false_, reduceIte, Nat.reduceEqDiff, Nat.reduceAdd, Nat.reduceMul, Nat.reduceSub, Int.reduceToNat, Int.reduceAdd, Int.reduceNeg, Int.reduceSub, Int.reduceMul, Int.reduceBEq, Int.reduceBNe, Int.reduceLT, Int.reduceLE, Int.reduceEq, beq_self_eq_true, Int.reducePow, Nat.reducePow, Int.reduceDiv, Nat.reduceLeDiff, reduceCtorEq, Tryz.f11, Tryz.results11, bC310, zerosL]
  simp -dsimp -failIfUnchanged (maxSteps := 2000000) (disch := omega) only [VA, if_true_, if_false_, reduceIte, Nat.reduceEqDiff, Nat.reduceAdd, Nat.reduceMul, Nat.reduceSub, Int.reduceToNat, Int.reduceAdd, Int.reduceNeg, Int.reduceSub, Int.reduceMul, Int.reduceBEq, Int.reduceBNe, Int.reduceLT, Int.reduceLE, Int.reduceEq, beq_self_eq_true, Int.reducePow, Nat.reducePow, Int.reduceDiv, Nat.reduceLeDiff, reduceCtorEq, Tryz.f11, Tryz.results11, bC310]
  have hle2 := Mem.le_trans hle1 (Mem.le_upd hy ⟨true, 1, [.int .i64 4]⟩)
  refine note_at (l := []) (hB.le (le_del hle2 hb)) (hT1.le (Mem.le_upd hy _)) (by simp) (.inl ⟨rfl, rfl, none, 0, rfl⟩) (by decide) fun H3 hbut3 hT3 => ?_
  have hle3 := hbut3.le hle2 hb
  simp -dsimp -failIfUnchanged (maxSteps := 2000000) (disch := omega) only [VA, if_true_, if_false_, reduceIte, Nat.reduceEqDiff, Nat.reduceAdd, Nat.reduceMul, Nat.reduceSub, Int.reduceToNat, Int.reduceAdd, Int.reduceNeg, Int.reduceSub, Int.reduceMul, Int.reduceBEq, Int.reduceBNe, Int.reduceLT, Int.reduceLE, Int.reduceEq, beq_self_eq_true, Int.reducePow, Nat.reducePow, Int.reduceDiv, Nat.reduceLeDiff, reduceCtorEq, Tryz.f11, Tryz.results11, bC310]
  refine semW_build ?_
  simp -dsimp -failIfUnchanged (maxSteps := 2000000) (disch := omega) only [VA, if_true_, if_false_, reduceIte, Nat.reduceEqDiff, Nat.reduceAdd, Nat.reduceMul, Nat.reduceSub, Int.reduceToNat, Int.reduceAdd, Int.reduceNeg, Int.reduceSub, Int.reduceMul, Int.reduceBEq, Int.reduceBNe, Int.reduceLT, Int.reduceLE, Int.reduceEq, beq_self_eq_true, Int.reducePow, Nat.reducePow, Int.reduceDiv, Nat.reduceLeDiff, reduceCtorEq, Tryz.f11, Tryz.results11, bC310]
  refine build_W (cs := saidC [(0, zOk), (0, zDone), (0, zDrop)]) einf37 rfl (by decide) ?_ fun y2 hy2 => ?_
  · simp -dsimp -failIfUnchanged (maxSteps := 2000000) (disch := omega) only [VA, if_true_, if_false_, reduceIte, Nat.reduceEqDiff, Nat.reduceAdd, Nat.reduceMul, Nat.reduceSub, Int.reduceToNat, Int.reduceAdd, Int.reduceNeg, Int.reduceSub, Int.reduceMul, Int.reduceBEq, Int.reduceBNe, Int.reduceLT, Int.reduceLE, Int.reduceEq, beq_self_eq_true, Int.reducePow, Nat.reducePow, Int.reduceDiv, Nat.reduceLeDiff, reduceCtorEq, Tryz.f11, Tryz.results11, bC310, zerosL]
    rfl
  simp -dsimp -failIfUnchanged (maxSteps := 2000000) (disch := omega) only [VA, if_true_, if_false_, reduceIte, Nat.reduceEqDiff, Nat.reduceAdd, Nat.reduceMul, Nat.reduceSub, Int.reduceToNat, Int.reduceAdd, Int.reduceNeg, Int.reduceSub, Int.reduceMul, Int.reduceBEq, Int.reduceBNe, Int.reduceLT, Int.reduceLE, Int.reduceEq, beq_self_eq_true, Int.reducePow, Nat.reducePow, Int.reduceDiv, Nat.reduceLeDiff, reduceCtorEq, Tryz.f11, Tryz.results11, bC310]
  have hle4 := Mem.le_trans hle3 (Mem.le_upd hy2 ⟨true, (saidC [(0, zOk), (0, zDone), (0, zDrop)]).length, saidC [(0, zOk), (0, zDone), (0, zDrop)]⟩)
  obtain ⟨rest3, B3, hb3, _⟩ := id hT3
  refine note_at (l := [(0, zOk), (0, zDone), (0, zDrop)]) (hB.le (le_del hle4 hb)) (hT3.le (Mem.le_upd hy2 _)) (by simp [Stz.small, zOk, zDone, zDrop]) ((OwnV.new (n := 9) (l := 3) (cs := saidC [(0, zOk), (0, zDone), (0, zDrop)]) hy2 rfl).del hb3) (by decide) fun H5 hbut5 hT5 => ?_
  have hle5 := hbut5.le hle4 hb
  simp -dsimp -failIfUnchanged (maxSteps := 2000000) (disch := omega) only [VA, if_true_, if_false_, reduceIte, Nat.reduceEqDiff, Nat.reduceAdd, Nat.reduceMul, Nat.reduceSub, Int.reduceToNat, Int.reduceAdd, Int.reduceNeg, Int.reduceSub, Int.reduceMul, Int.reduceBEq, Int.reduceBNe, Int.reduceLT, Int.reduceLE, Int.reduceEq, beq_self_eq_true, Int.reducePow, Nat.reducePow, Int.reduceDiv, Nat.reduceLeDiff, reduceCtorEq, Tryz.f11, Tryz.results11, bC310]
  refine addT_W hT5 fun H6 hbut6 hT6 => ?_
  have hle6 := hbut6.le hle5 hb
  simp -dsimp -failIfUnchanged (maxSteps := 2000000) (disch := omega) only [VA, if_true_, if_false_, reduceIte, Nat.reduceEqDiff, Nat.reduceAdd, Nat.reduceMul, Nat.reduceSub, Int.reduceToNat, Int.reduceAdd, Int.reduceNeg, Int.reduceSub, Int.reduceMul, Int.reduceBEq, Int.reduceBNe, Int.reduceLT, Int.reduceLE, Int.reduceEq, beq_self_eq_true, Int.reducePow, Nat.reducePow, Int.reduceDiv, Nat.reduceLeDiff, reduceCtorEq, Tryz.f11, Tryz.results11, bC310]
  refine addT_W hT6 fun H7 hbut7 hT7 => ?_
  have hle7 := hbut7.le hle6 hb
  rw [awake_cs] at hT7
  simp -dsimp -failIfUnchanged (maxSteps := 2000000) (disch := omega) only [VA, if_true_, if_false_, reduceIte, Nat.reduceEqDiff, Nat.reduceAdd, Nat.reduceMul, Nat.reduceSub, Int.reduceToNat, Int.reduceAdd, Int.reduceNeg, Int.reduceSub, Int.reduceMul, Int.reduceBEq, Int.reduceBNe, Int.reduceLT, Int.reduceLE, Int.reduceEq, beq_self_eq_true, Int.reducePow, Nat.reducePow, Int.reduceDiv, Nat.reduceLeDiff, reduceCtorEq, Tryz.f11, Tryz.results11, bC310]
  refine names_W fun x hx => ?_
  have hle8 := Mem.le_trans hle7 (Mem.le_upd hx ⟨true, 12, namesC⟩)
  have hT8 := hT7.le (Mem.le_upd hx ⟨true, 12, namesC⟩)
  have hrx : (H7.upd x ⟨true, 12, namesC⟩).read ⟨x, 11, none⟩ 1 = some [.string (bs [115, 104, 117, 116])] := read_cell (rw := true) (r := 12) (cs := namesC) (if_pos rfl) rfl
  have hxb : x ≠ b := by obtain ⟨_, _, h1, _⟩ := id hT7; exact ne_of_some hx h1
  generalize H7.upd x ⟨true, 12, namesC⟩ = H8 at hle8 hT8 hrx ⊢
  have a1 : addOk [115, 101, 101, 110] 5 = true := by decide +kernel
  have a2 : addOk [110, 111, 110, 101] 5 = false := by decide +kernel
  simp -dsimp -failIfUnchanged (maxSteps := 2000000) (disch := omega) only [VA, if_true_, if_false_, reduceIte, Nat.reduceEqDiff, Nat.reduceAdd, Nat.reduceMul, Nat.reduceSub, Int.reduceToNat, Int.reduceAdd, Int.reduceNeg, Int.reduceSub, Int.reduceMul, Int.reduceBEq, Int.reduceBNe, Int.reduceLT, Int.reduceLE, Int.reduceEq, beq_self_eq_true, Int.reducePow, Nat.reducePow, Int.reduceDiv, Nat.reduceLeDiff, reduceCtorEq, Tryz.f11, Tryz.results11, bC310, a1, a2, Int.reduceBEq, List.append_eq, List.cons_append, List.nil_append]
  refine getT_W hT8 fun H9 hbut hT9 => ?_
  have hle8 := hbut.le hle8 hb
  have hT8 := hT9
  have hrx := hbut.read (a := ⟨x, 11, none⟩) hxb hrx
  rw [show getP cW [115, 116, 101, 112, 115] = 2 from by decide +kernel]
  simp -dsimp -failIfUnchanged (maxSteps := 2000000) (disch := omega) only [VA, if_true_, if_false_, reduceIte, Nat.reduceEqDiff, Nat.reduceAdd, Nat.reduceMul, Nat.reduceSub, Int.reduceToNat, Int.reduceAdd, Int.reduceNeg, Int.reduceSub, Int.reduceMul, Int.reduceBEq, Int.reduceBNe, Int.reduceLT, Int.reduceLE, Int.reduceEq, beq_self_eq_true, Int.reducePow, Nat.reducePow, Int.reduceDiv, Nat.reduceLeDiff, reduceCtorEq, Tryz.f11, Tryz.results11, bC310, a1, a2, Int.reduceBEq, List.append_eq, List.cons_append, List.nil_append]
  refine getT_W hT8 fun H9 hbut hT9 => ?_
  have hle8 := hbut.le hle8 hb
  have hT8 := hT9
  have hrx := hbut.read (a := ⟨x, 11, none⟩) hxb hrx
  rw [show getP cW [119, 114, 111, 110, 103] = 1 from by decide +kernel]
  simp -dsimp -failIfUnchanged (maxSteps := 2000000) (disch := omega) only [VA, if_true_, if_false_, reduceIte, Nat.reduceEqDiff, Nat.reduceAdd, Nat.reduceMul, Nat.reduceSub, Int.reduceToNat, Int.reduceAdd, Int.reduceNeg, Int.reduceSub, Int.reduceMul, Int.reduceBEq, Int.reduceBNe, Int.reduceLT, Int.reduceLE, Int.reduceEq, beq_self_eq_true, Int.reducePow, Nat.reducePow, Int.reduceDiv, Nat.reduceLeDiff, reduceCtorEq, Tryz.f11, Tryz.results11, bC310, a1, a2, Int.reduceBEq, List.append_eq, List.cons_append, List.nil_append]
  refine getT_W hT8 fun H9 hbut hT9 => ?_
  have hle8 := hbut.le hle8 hb
  have hT8 := hT9
  have hrx := hbut.read (a := ⟨x, 11, none⟩) hxb hrx
  rw [show getP cW [115, 104, 117, 116] = 1 from by decide +kernel]
  simp -dsimp -failIfUnchanged (maxSteps := 2000000) (disch := omega) only [VA, if_true_, if_false_, reduceIte, Nat.reduceEqDiff, Nat.reduceAdd, Nat.reduceMul, Nat.reduceSub, Int.reduceToNat, Int.reduceAdd, Int.reduceNeg, Int.reduceSub, Int.reduceMul, Int.reduceBEq, Int.reduceBNe, Int.reduceLT, Int.reduceLE, Int.reduceEq, beq_self_eq_true, Int.reducePow, Nat.reducePow, Int.reduceDiv, Nat.reduceLeDiff, reduceCtorEq, Tryz.f11, Tryz.results11, bC310, a1, a2, Int.reduceBEq, List.append_eq, List.cons_append, List.nil_append]
  refine getT_W hT8 fun H9 hbut hT9 => ?_
  have hle8 := hbut.le hle8 hb
  have hT8 := hT9
  have hrx := hbut.read (a := ⟨x, 11, none⟩) hxb hrx
  rw [show getP cW [115, 97, 105, 100] = 3 from by decide +kernel]
  simp -dsimp -failIfUnchanged (maxSteps := 2000000) (disch := omega) only [VA, if_true_, if_false_, reduceIte, Nat.reduceEqDiff, Nat.reduceAdd, Nat.reduceMul, Nat.reduceSub, Int.reduceToNat, Int.reduceAdd, Int.reduceNeg, Int.reduceSub, Int.reduceMul, Int.reduceBEq, Int.reduceBNe, Int.reduceLT, Int.reduceLE, Int.reduceEq, beq_self_eq_true, Int.reducePow, Nat.reducePow, Int.reduceDiv, Nat.reduceLeDiff, reduceCtorEq, Tryz.f11, Tryz.results11, bC310, a1, a2, Int.reduceBEq, List.append_eq, List.cons_append, List.nil_append]
  refine getT_W hT8 fun H9 hbut hT9 => ?_
  have hle8 := hbut.le hle8 hb
  have hT8 := hT9
  have hrx := hbut.read (a := ⟨x, 11, none⟩) hxb hrx
  rw [show getP cW [103, 114, 97, 110, 116, 101, 100] = 1 from by decide +kernel]
  simp -dsimp -failIfUnchanged (maxSteps := 2000000) (disch := omega) only [VA, if_true_, if_false_, reduceIte, Nat.reduceEqDiff, Nat.reduceAdd, Nat.reduceMul, Nat.reduceSub, Int.reduceToNat, Int.reduceAdd, Int.reduceNeg, Int.reduceSub, Int.reduceMul, Int.reduceBEq, Int.reduceBNe, Int.reduceLT, Int.reduceLE, Int.reduceEq, beq_self_eq_true, Int.reducePow, Nat.reducePow, Int.reduceDiv, Nat.reduceLeDiff, reduceCtorEq, Tryz.f11, Tryz.results11, bC310, a1, a2, Int.reduceBEq, List.append_eq, List.cons_append, List.nil_append]
  refine getT_W hT8 fun H9 hbut hT9 => ?_
  have hle8 := hbut.le hle8 hb
  have hT8 := hT9
  have hrx := hbut.read (a := ⟨x, 11, none⟩) hxb hrx
  rw [show getP cW [114, 111, 115, 116, 101, 114, 115] = 1 from by decide +kernel]
  simp -dsimp -failIfUnchanged (maxSteps := 2000000) (disch := omega) only [VA, if_true_, if_false_, reduceIte, Nat.reduceEqDiff, Nat.reduceAdd, Nat.reduceMul, Nat.reduceSub, Int.reduceToNat, Int.reduceAdd, Int.reduceNeg, Int.reduceSub, Int.reduceMul, Int.reduceBEq, Int.reduceBNe, Int.reduceLT, Int.reduceLE, Int.reduceEq, beq_self_eq_true, Int.reducePow, Nat.reducePow, Int.reduceDiv, Nat.reduceLeDiff, reduceCtorEq, Tryz.f11, Tryz.results11, bC310, a1, a2, Int.reduceBEq, List.append_eq, List.cons_append, List.nil_append]
  refine getT_W hT8 fun H9 hbut hT9 => ?_
  have hle8 := hbut.le hle8 hb
  have hT8 := hT9
  have hrx := hbut.read (a := ⟨x, 11, none⟩) hxb hrx
  rw [show getP cW [98, 121, 116, 101, 115] = 26 from by decide +kernel]
  simp -dsimp -failIfUnchanged (maxSteps := 2000000) (disch := omega) only [VA, if_true_, if_false_, reduceIte, Nat.reduceEqDiff, Nat.reduceAdd, Nat.reduceMul, Nat.reduceSub, Int.reduceToNat, Int.reduceAdd, Int.reduceNeg, Int.reduceSub, Int.reduceMul, Int.reduceBEq, Int.reduceBNe, Int.reduceLT, Int.reduceLE, Int.reduceEq, beq_self_eq_true, Int.reducePow, Nat.reducePow, Int.reduceDiv, Nat.reduceLeDiff, reduceCtorEq, Tryz.f11, Tryz.results11, bC310, a1, a2, Int.reduceBEq, List.append_eq, List.cons_append, List.nil_append]
  refine getT_W hT8 fun H9 hbut hT9 => ?_
  have hle8 := hbut.le hle8 hb
  have hT8 := hT9
  have hrx := hbut.read (a := ⟨x, 11, none⟩) hxb hrx
  rw [show getP cW [115, 101, 101, 110] = 5 from by decide +kernel]
  simp -dsimp -failIfUnchanged (maxSteps := 2000000) (disch := omega) only [VA, if_true_, if_false_, reduceIte, Nat.reduceEqDiff, Nat.reduceAdd, Nat.reduceMul, Nat.reduceSub, Int.reduceToNat, Int.reduceAdd, Int.reduceNeg, Int.reduceSub, Int.reduceMul, Int.reduceBEq, Int.reduceBNe, Int.reduceLT, Int.reduceLE, Int.reduceEq, beq_self_eq_true, Int.reducePow, Nat.reducePow, Int.reduceDiv, Nat.reduceLeDiff, reduceCtorEq, Tryz.f11, Tryz.results11, bC310, a1, a2, Int.reduceBEq, hrx]
  refine list_at hT8 fun v H10 hbut10 hT10 hv hvs => ?_
  obtain ⟨a10, c10, rfl⟩ := hvs
  simp -dsimp -failIfUnchanged (maxSteps := 2000000) (disch := omega) only [VA, if_true_, if_false_, reduceIte, Nat.reduceEqDiff, Nat.reduceAdd, Nat.reduceMul, Nat.reduceSub, Int.reduceToNat, Int.reduceAdd, Int.reduceNeg, Int.reduceSub, Int.reduceMul, Int.reduceBEq, Int.reduceBNe, Int.reduceLT, Int.reduceLE, Int.reduceEq, beq_self_eq_true, Int.reducePow, Nat.reducePow, Int.reduceDiv, Nat.reduceLeDiff, reduceCtorEq, Tryz.f11, Tryz.results11, bC310, a1, a2, Int.reduceBEq, hrx]
  refine joinS_W ?_
  simp -dsimp -failIfUnchanged (maxSteps := 2000000) (disch := omega) only [VA, if_true_, if_false_, reduceIte, Nat.reduceEqDiff, Nat.reduceAdd, Nat.reduceMul, Nat.reduceSub, Int.reduceToNat, Int.reduceAdd, Int.reduceNeg, Int.reduceSub, Int.reduceMul, Int.reduceBEq, Int.reduceBNe, Int.reduceLT, Int.reduceLE, Int.reduceEq, beq_self_eq_true, Int.reducePow, Nat.reducePow, Int.reduceDiv, Nat.reduceLeDiff, reduceCtorEq, Tryz.f11, Tryz.results11, bC310, a1, a2, Int.reduceBEq, hrx]
  exact h _ (hbut10.le hle8 hb)
end Go.Proofs.YtgkolnknobgcmaaGreat
end
section
namespace Go.Proofs.YtgkolnknobgcmaaGreat
open Go Go.Proofs.YtgkolnknobgcmaaGreatV Go.Shelf
set_option maxRecDepth 20000
set_option linter.unusedSimpArgs false
set_option linter.unusedVariables false
set_option maxHeartbeats 4000000
theorem bC320 : type_of% @Tryz.underlying3 ∧ type_of% @ty3 ∧ type_of% @zero3 ∧ type_of% @Tryz.underlying4 ∧ type_of% @ty4 ∧ type_of% @zero4 ∧ type_of% @Tryz.underlying5 ∧ type_of% @ty5 ∧ type_of% @zero5 ∧ type_of% @Tryz.underlying9 ∧ type_of% @ty9 ∧ type_of% @zero9 ∧ type_of% @Tryz.underlying22 ∧ type_of% @einf22 ∧ type_of% @elt22 ∧ type_of% @ty22 ∧ type_of% @zero22 ∧ type_of% @Tryz.underlying25 ∧ type_of% @ty25 ∧ type_of% @zero25 ∧ type_of% @Tryz.underlying32 ∧ type_of% @elt32 ∧ type_of% @fld32_0 ∧ type_of% @fld32_1 ∧ type_of% @fld32_2 ∧ type_of% @flds32 ∧ type_of% @ty32 ∧ type_of% @zero32 ∧ type_of% @Tryz.underlying34 ∧ type_of% @elt34 ∧ type_of% @fld34_0 ∧ type_of% @fld34_1 ∧ type_of% @fld34_2 ∧ type_of% @flds34 ∧ type_of% @ty34 ∧ type_of% @zero34 ∧ type_of% @Tryz.underlying39 ∧ type_of% @elt39 ∧ type_of% @fld39_0 ∧ type_of% @fld39_1 ∧ type_of% @fld39_2 ∧ type_of% @flds39 ∧ type_of% @ty39 ∧ type_of% @zero39 ∧ type_of% @Tryz.underlying46 ∧ type_of% @einf46 ∧ type_of% @elt46 ∧ type_of% @ty46 ∧ type_of% @zero46 ∧ type_of% @Tryz.underlying48 ∧ type_of% @einf48 ∧ type_of% @elt48 ∧ type_of% @ty48 ∧ type_of% @zero48 ∧ type_of% @Tryz.underlying57 ∧ type_of% @ty57 ∧ type_of% @zero57 ∧ type_of% @Tryz.ntmps5 := ⟨@Tryz.underlying3, @ty3, @zero3, @Tryz.underlying4, @ty4, @zero4, @Tryz.underlying5, @ty5, @zero5, @Tryz.underlying9, @ty9, @zero9, @Tryz.underlying22, @einf22, @elt22, @ty22, @zero22, @Tryz.underlying25, @ty25, @zero25, @Tryz.underlying32, @elt32, @fld32_0, @fld32_1, @fld32_2, @flds32, @ty32, @zero32, @Tryz.underlying34, @elt34, @fld34_0, @fld34_1, @fld34_2, @flds34, @ty34, @zero34, @Tryz.underlying39, @elt39, @fld39_0, @fld39_1, @fld39_2, @flds39, @ty39, @zero39, @Tryz.underlying46, @einf46, @elt46, @ty46, @zero46, @Tryz.underlying48, @einf48, @elt48, @ty48, @zero48, @Tryz.underlying57, @ty57, @zero57, @Tryz.ntmps5⟩
variable {H : Mem} {K : Value → Mem → Prop}

theorem place_name : ∀ j : Nat, j < 12 → placeL namesL (namesL[j]?.getD []) = j := by decide +kernel
theorem add_name {cs : List Int} {j : Nat} {n : Int} (hj : j < 12) (hn : 0 ≤ n) : addOk (namesL[j]?.getD []) n = true ∧ addP cs (namesL[j]?.getD []) n = addAt cs j n := by
  have h1 : addOk (namesL[j]?.getD []) n = true := by unfold addOk; rw [place_name j hj]; simp; omega
  exact ⟨h1, by unfold addP; rw [if_pos h1, place_name j hj]; rfl⟩
theorem get_name {cs : List Int} {i : Nat} (hi : i < 12) : getP cs (namesL[i]?.getD []) = cs[i]?.getD 0 := by
  unfold getP; rw [place_name i hi, if_neg (by omega)]; rfl
theorem nobody_get {i j : Nat} {n : Int} (hi : i < 12) (hj : j < 12) (hn : 0 ≤ n ∧ n ≤ 4294967295) : (addAt zeros12 j n)[i]?.getD 0 = if i = j then n else 0 := by
  have h0 : ∀ i, i < 12 → zeros12[i]?.getD 0 = 0 := by decide +kernel
  have hl : zeros12.length = 12 := rfl
  unfold addAt sat
  rw [h0 j hj, List.getElem?_set]
  by_cases h : j = i
  · subst h
    rw [if_pos rfl, if_pos (by omega), if_pos rfl]
    simp; omega
  · rw [if_neg h, if_neg (Ne.symm h), h0 i hi]
theorem names_read {b r j : Nat} {rw : Bool} (hb : H b = some ⟨rw, r, namesC⟩) (hj : j < 12) : H.read ⟨b, j, none⟩ 1 = some [.string (bs (namesL[j]?.getD []))] := by
  have hl : namesL.length = 12 := rfl
  exact read_cell hb (by unfold namesC; rw [List.getElem?_map, List.getElem?_eq_getElem (by omega)]; rfl)
theorem nobody_W {v : Value} {l : List ActD} {k n : Int} (hB : Base H) (hv : ActsAt H v l) (hk0 : 0 ≤ k ∧ k ≤ 255) (hn0 : 0 ≤ n ∧ n ≤ 4294967295) (h : ∀ H', H.le H' → K (.bool true) H') :
    InvW Tryz.prog 5 #[v, .int .u8 k, .int .u32 n] H K := by
  obtain ⟨a0, c, rfl⟩ := hv.v.slice
  obtain ⟨j, hj, hkj⟩ : ∃ j : Nat, j < 12 ∧ k.tmod 12 = j := ⟨(k.tmod 12).toNat, by have := Int.tmod_lt_of_pos k (show (0 : Int) < 12 by decide); omega, by have := Int.tmod_nonneg 12 hk0.1; omega⟩
  (refine invW_of_pw Tryz.func5 rfl rfl (by decide +kernel) (by simp [Tryz.f5]) ?_); simp -dsimp -failIfUnchanged (maxSteps := 2000000) (disch := omega) only [VA, if_true_, if_false_, reduceIte, Nat.reduceEqDiff, Nat.reduceAdd, Nat.reduceMul, Nat.reduceSub, Int.reduceToNat, Int.reduceAdd, Int.reduceNeg, Int.reduceSub, Int.reduceMul, Int.reduceBEq, Int.reduceBNe, Int.reduceLT, Int.reduceLE, Int.reduceEq, beq_self_eq_true, Int.reducePow, Nat.reducePow, Int.reduceDiv, Nat.reduceLeDiff, reduceCtorEq, Tryz.f5, Tryz.results5, bC320]
  refine few_W hv ?_
  cases hf : fewB l
  · simp -dsimp -failIfUnchanged (maxSteps := 2000000) (disch := omega) only [VA, if_true_, if_false_, reduceIte, Nat.reduceEqDiff, Nat.reduceAdd, Nat.reduceMul, Nat.reduceSub, Int.reduceToNat, Int.reduceAdd, Int.reduceNeg, Int.reduceSub, Int.reduceMul, Int.reduceBEq, Int.reduceBNe, Int.reduceLT, Int.reduceLE, Int.reduceEq, beq_self_eq_true, Int.reducePow, Nat.reducePow, Int.reduceDiv, Nat.reduceLeDiff, reduceCtorEq, Tryz.f5, Tryz.results5, bC320]
    refine awake_W hB fun H' hle => ?_
    simp -dsimp -failIfUnchanged (maxSteps := 2000000) (disch := omega) only [VA, if_true_, if_false_, reduceIte, Nat.reduceEqDiff, Nat.reduceAdd, Nat.reduceMul, Nat.reduceSub, Int.reduceToNat, Int.reduceAdd, Int.reduceNeg, Int.reduceSub, Int.reduceMul, Int.reduceBEq, Int.reduceBNe, Int.reduceLT, Int.reduceLE, Int.reduceEq, beq_self_eq_true, Int.reducePow, Nat.reducePow, Int.reduceDiv, Nat.reduceLeDiff, reduceCtorEq, Tryz.f5, Tryz.results5, bC320]
    exact h H' hle
  obtain ⟨hlen, hall⟩ := fewB_all hf
  simp -dsimp -failIfUnchanged (maxSteps := 2000000) (disch := omega) only [VA, if_true_, if_false_, reduceIte, Nat.reduceEqDiff, Nat.reduceAdd, Nat.reduceMul, Nat.reduceSub, Int.reduceToNat, Int.reduceAdd, Int.reduceNeg, Int.reduceSub, Int.reduceMul, Int.reduceBEq, Int.reduceBNe, Int.reduceLT, Int.reduceLE, Int.reduceEq, beq_self_eq_true, Int.reducePow, Nat.reducePow, Int.reduceDiv, Nat.reduceLeDiff, reduceCtorEq, Tryz.f5, Tryz.results5, bC320]
  refine loop_enter (loop_ind ?_ (fun (i : Nat) e1 H1 => e1.ds = [] ∧ e1 0 = .slice a0 l.length c ∧ e1 1 = .int .u8 k ∧ e1 2 = .int .u32 n ∧ e1 7 = .pointer none ∧ e1 8 = .int .i64 i ∧ i ≤ l.length ∧ H.le H1) (fun i => l.length - i) ?_ 0 _ _ ?_)
  · decide +kernel
  rotate_left
  · simp -dsimp -failIfUnchanged (maxSteps := 2000000) (disch := omega) only [VA, if_true_, if_false_, reduceIte, Nat.reduceEqDiff, Nat.reduceAdd, Nat.reduceMul, Nat.reduceSub, Int.reduceToNat, Int.reduceAdd, Int.reduceNeg, Int.reduceSub, Int.reduceMul, Int.reduceBEq, Int.reduceBNe, Int.reduceLT, Int.reduceLE, Int.reduceEq, beq_self_eq_true, Int.reducePow, Nat.reducePow, Int.reduceDiv, Nat.reduceLeDiff, reduceCtorEq, Tryz.f5, Tryz.results5, bC320]
    refine ⟨trivial, trivial, trivial, trivial, trivial, ?_, ?_, Mem.le_refl _⟩ <;> first | trivial | rfl | omega
  rintro i e1 H1 ⟨d0, d1, d2, d3, d4, d5, hi, hle⟩ ih
  by_cases hlt : i < l.length
  · have q1 : decide ((i : Int) < l.length) = true := decide_eq_true (by omega)
    obtain ⟨b1, o, c', hab, hrd⟩ := (hv.le hle).v.block (by omega) (by decide)
    cases hab
    obtain ⟨a, ha⟩ : ∃ a, l[i]? = some a := ⟨l[i], by simp⟩
    have r0 := flat_read ActD.cells_len hrd ha (k := 0) (m := 3) (ws := [.int .i64 a.e, a.sv, .slice a.sa a.ns a.sc]) (by decide) rfl
    rw [Nat.add_zero] at r0
    have haa := (hv.le hle).a a (List.mem_of_getElem? ha)
    have haf := ActD.few_small (hall a (List.mem_of_getElem? ha))
    simp -dsimp -failIfUnchanged (maxSteps := 2000000) (disch := omega) only [VA, if_true_, if_false_, reduceIte, Nat.reduceEqDiff, Nat.reduceAdd, Nat.reduceMul, Nat.reduceSub, Int.reduceToNat, Int.reduceAdd, Int.reduceNeg, Int.reduceSub, Int.reduceMul, Int.reduceBEq, Int.reduceBNe, Int.reduceLT, Int.reduceLE, Int.reduceEq, beq_self_eq_true, Int.reducePow, Nat.reducePow, Int.reduceDiv, Nat.reduceLeDiff, reduceCtorEq, Tryz.f5, Tryz.results5, bC320, d0, d1, d2, d3, d4, d5, q1, r0, Int.toNat_natCast, Nat.add_zero]
    refine result_W haa.1 (by omega) fun v2 H2 ho => ?_
    have hrd2 := read_le ho.le hrd
    have r3 := flat_read ActD.cells_len hrd2 ha (k := 3) (m := 1) (ws := [.string (bs a.name)]) (by decide) rfl
    have r4 := flat_read ActD.cells_len hrd2 ha (k := 4) (m := 1) (ws := [.int .i64 a.n]) (by decide) rfl
    have hle2 := Mem.le_trans hle ho.le
    simp -dsimp -failIfUnchanged (maxSteps := 2000000) (disch := omega) only [VA, if_true_, if_false_, reduceIte, Nat.reduceEqDiff, Nat.reduceAdd, Nat.reduceMul, Nat.reduceSub, Int.reduceToNat, Int.reduceAdd, Int.reduceNeg, Int.reduceSub, Int.reduceMul, Int.reduceBEq, Int.reduceBNe, Int.reduceLT, Int.reduceLE, Int.reduceEq, beq_self_eq_true, Int.reducePow, Nat.reducePow, Int.reduceDiv, Nat.reduceLeDiff, reduceCtorEq, Tryz.f5, Tryz.results5, bC320, d0, d1, d2, d3, d4, d5]
    refine noteN_W ?_
    simp -dsimp -failIfUnchanged (maxSteps := 2000000) (disch := omega) only [VA, if_true_, if_false_, reduceIte, Nat.reduceEqDiff, Nat.reduceAdd, Nat.reduceMul, Nat.reduceSub, Int.reduceToNat, Int.reduceAdd, Int.reduceNeg, Int.reduceSub, Int.reduceMul, Int.reduceBEq, Int.reduceBNe, Int.reduceLT, Int.reduceLE, Int.reduceEq, beq_self_eq_true, Int.reducePow, Nat.reducePow, Int.reduceDiv, Nat.reduceLeDiff, reduceCtorEq, Tryz.f5, Tryz.results5, bC320, d0, d1, d2, d3, d4, d5]
    refine draw_plan (.take 0 (.take 1 (.take 2 (.take 3 (.take 4 (.take 6 (.take 7 (.take 8 (.take 9 (.read 5 (.read 10 (.alt 11 .done .nil)))))))))))) [5, 10] ?_ ?_ ?_
    · decide +kernel
    · decide +kernel
    simp -dsimp -failIfUnchanged (maxSteps := 2000000) (disch := omega) only [VA, if_true_, if_false_, reduceIte, Nat.reduceEqDiff, Nat.reduceAdd, Nat.reduceMul, Nat.reduceSub, Int.reduceToNat, Int.reduceAdd, Int.reduceNeg, Int.reduceSub, Int.reduceMul, Int.reduceBEq, Int.reduceBNe, Int.reduceLT, Int.reduceLE, Int.reduceEq, beq_self_eq_true, Int.reducePow, Nat.reducePow, Int.reduceDiv, Nat.reduceLeDiff, reduceCtorEq, Tryz.f5, Tryz.results5, bC320, dV0, dV1, dV2, and_true, d0, d1, d2, d3, d4, d5, r3, r4, Int.toNat_natCast, Nat.add_zero]
    refine addN_W ?_
    simp -dsimp -failIfUnchanged (maxSteps := 2000000) (disch := omega) only [VA, if_true_, if_false_, reduceIte, Nat.reduceEqDiff, Nat.reduceAdd, Nat.reduceMul, Nat.reduceSub, Int.reduceToNat, Int.reduceAdd, Int.reduceNeg, Int.reduceSub, Int.reduceMul, Int.reduceBEq, Int.reduceBNe, Int.reduceLT, Int.reduceLE, Int.reduceEq, beq_self_eq_true, Int.reducePow, Nat.reducePow, Int.reduceDiv, Nat.reduceLeDiff, reduceCtorEq, Tryz.f5, Tryz.results5, bC320, dV0, dV1, dV2, and_true, d0, d1, d2, d3, d4, d5]
    refine ih (i + 1) _ _ ?_ (by omega)
    simp -dsimp -failIfUnchanged (maxSteps := 2000000) (disch := omega) only [VA, if_true_, if_false_, reduceIte, Nat.reduceEqDiff, Nat.reduceAdd, Nat.reduceMul, Nat.reduceSub, Int.reduceToNat, Int.reduceAdd, Int.reduceNeg, Int.reduceSub, Int.reduceMul, Int.reduceBEq, Int.reduceBNe, Int.reduceLT, Int.reduceLE, Int.reduceEq, beq_self_eq_true, Int.reducePow, Nat.reducePow, Int.reduceDiv, Nat.reduceLeDiff, reduceCtorEq, Tryz.f5, Tryz.results5, bC320, d0, d1, d2, d3, d4, d5]
    exact ⟨trivial, trivial, trivial, trivial, trivial, by simp, by omega, hle2⟩
  have q1 : decide ((i : Int) < l.length) = false := decide_eq_false (by omega)
  simp -dsimp -failIfUnchanged (maxSteps := 2000000) (disch := omega) only [VA, if_true_, if_false_, reduceIte, Nat.reduceEqDiff, Nat.reduceAdd, Nat.reduceMul, Nat.reduceSub, Int.reduceToNat, Int.reduceAdd, Int.reduceNeg, Int.reduceSub, Int.reduceMul, Int.reduceBEq, Int.reduceBNe, Int.reduceLT, Int.reduceLE, Int.reduceEq, beq_self_eq_true, Int.reducePow, Nat.reducePow, Int.reduceDiv, Nat.reduceLeDiff, reduceCtorEq, Tryz.f5, Tryz.results5, bC320, d0, d1, d2, d3, d4, d5, q1]
  refine newT_W fun b H2 hb2 hle2 hT2 hp2 => ?_
  simp -dsimp -failIfUnchanged (maxSteps := 2000000) (disch := omega) only [VA, if_true_, if_false_, reduceIte, Nat.reduceEqDiff, Nat.reduceAdd, Nat.reduceMul, Nat.reduceSub, Int.reduceToNat, Int.reduceAdd, Int.reduceNeg, Int.reduceSub, Int.reduceMul, Int.reduceBEq, Int.reduceBNe, Int.reduceLT, Int.reduceLE, Int.reduceEq, beq_self_eq_true, Int.reducePow, Nat.reducePow, Int.reduceDiv, Nat.reduceLeDiff, reduceCtorEq, Tryz.f5, Tryz.results5, bC320, d0, d1, d2, d3, d4, d5, q1]
  refine names_W fun x hx => ?_
  have hxb : x ≠ b := by obtain ⟨_, _, h1, _⟩ := id hT2; exact ne_of_some hx h1
  have hrj := names_read (H := H2.upd x ⟨true, 12, namesC⟩) (if_pos rfl) hj
  simp -dsimp -failIfUnchanged (maxSteps := 2000000) (disch := omega) only [VA, if_true_, if_false_, reduceIte, Nat.reduceEqDiff, Nat.reduceAdd, Nat.reduceMul, Nat.reduceSub, Int.reduceToNat, Int.reduceAdd, Int.reduceNeg, Int.reduceSub, Int.reduceMul, Int.reduceBEq, Int.reduceBNe, Int.reduceLT, Int.reduceLE, Int.reduceEq, beq_self_eq_true, Int.reducePow, Nat.reducePow, Int.reduceDiv, Nat.reduceLeDiff, reduceCtorEq, Tryz.f5, Tryz.results5, bC320, d0, d1, d2, d3, d4, d5, q1, hkj, Option.isNone_some, hrj, Int.toNat_natCast, Nat.zero_add, Nat.mul_one]
  obtain ⟨ad1, ad2⟩ := add_name (cs := zeros12) hj hn0.1
  refine addT_W (hT2.le (Mem.le_upd hx _)) fun H3 hbut3 hT3 => ?_
  rw [ad1]
  rw [ad2] at hT3
  have hb0 : H b = none := le_none hle hb2
  have hle3 : H.le H3 := hbut3.le (Mem.le_trans hle (Mem.le_trans hle2 (Mem.le_upd hx ⟨true, 12, namesC⟩))) hb0
  have hx3 : H3.read ⟨x, 0, none⟩ 12 = some namesC := hbut3.read (a := ⟨x, 0, none⟩) hxb (by rw [rds]; rfl)
  simp -dsimp -failIfUnchanged (maxSteps := 2000000) (disch := omega) only [VA, if_true_, if_false_, reduceIte, Nat.reduceEqDiff, Nat.reduceAdd, Nat.reduceMul, Nat.reduceSub, Int.reduceToNat, Int.reduceAdd, Int.reduceNeg, Int.reduceSub, Int.reduceMul, Int.reduceBEq, Int.reduceBNe, Int.reduceLT, Int.reduceLE, Int.reduceEq, beq_self_eq_true, Int.reducePow, Nat.reducePow, Int.reduceDiv, Nat.reduceLeDiff, reduceCtorEq, Tryz.f5, Tryz.results5, bC320, d0, d1, d2, d3, d4, d5, q1]
  refine loop_enter (loop_ind ?_ (fun (i : Nat) e2 H4 => e2.ds = [] ∧ e2 0 = .slice a0 l.length c ∧ e2 1 = .int .u8 k ∧ e2 2 = .int .u32 n ∧ e2 7 = .pointer none ∧ e2 9 = .pointer (some ⟨b, 0, none⟩) ∧ e2 10 = .slice (some ⟨x, 0, none⟩) 12 12 ∧ e2 11 = .int .i64 i ∧ i ≤ 12 ∧
      H.le H4 ∧ TalAt H4 b (addAt zeros12 j n) ∧ H4.read ⟨x, 0, none⟩ 12 = some namesC) (fun i => 12 - i) ?_ 0 _ _ ?_)
  · decide +kernel
  rotate_left
  · simp -dsimp -failIfUnchanged (maxSteps := 2000000) (disch := omega) only [VA, if_true_, if_false_, reduceIte, Nat.reduceEqDiff, Nat.reduceAdd, Nat.reduceMul, Nat.reduceSub, Int.reduceToNat, Int.reduceAdd, Int.reduceNeg, Int.reduceSub, Int.reduceMul, Int.reduceBEq, Int.reduceBNe, Int.reduceLT, Int.reduceLE, Int.reduceEq, beq_self_eq_true, Int.reducePow, Nat.reducePow, Int.reduceDiv, Nat.reduceLeDiff, reduceCtorEq, Tryz.f5, Tryz.results5, bC320, d0, d1, d2, d3, d4]
    refine ⟨trivial, trivial, trivial, trivial, trivial, trivial, trivial, ?_, ?_, hle3, hT3, hx3⟩ <;> first | trivial | rfl | omega
  rintro m e2 H4 ⟨g0, g1, g2, g3, g4, g5, g6, g7, hm, hle4, hT4, hx4⟩ ih2
  by_cases hml : m < 12
  · have q2 : decide ((m : Int) < 12) = true := decide_eq_true (by omega)
    have rm := read_sub hx4 (k := m) (m := 1) (ws := [.string (bs (namesL[m]?.getD []))]) (by omega) (by
      have hl : namesL.length = 12 := rfl
      unfold namesC
      rw [← List.map_drop, List.drop_eq_getElem_cons (by omega), List.getElem?_eq_getElem (by omega)]; rfl)
    rw [Nat.zero_add] at rm
    simp -dsimp -failIfUnchanged (maxSteps := 2000000) (disch := omega) only [VA, if_true_, if_false_, reduceIte, Nat.reduceEqDiff, Nat.reduceAdd, Nat.reduceMul, Nat.reduceSub, Int.reduceToNat, Int.reduceAdd, Int.reduceNeg, Int.reduceSub, Int.reduceMul, Int.reduceBEq, Int.reduceBNe, Int.reduceLT, Int.reduceLE, Int.reduceEq, beq_self_eq_true, Int.reducePow, Nat.reducePow, Int.reduceDiv, Nat.reduceLeDiff, reduceCtorEq, Tryz.f5, Tryz.results5, bC320, g0, g1, g2, g3, g4, g5, g6, g7, q2, rm, hkj, Int.toNat_natCast, Nat.zero_add, Nat.mul_one]
    refine getT_W hT4 fun H5 hbut5 hT5 => ?_
    have hle5 := hbut5.le hle4 hb0
    have hx5 := hbut5.read (a := ⟨x, 0, none⟩) hxb hx4
    rw [get_name hml, nobody_get hml hj hn0]
    have fin : ∀ (b1 b2 : Bool), True := fun _ _ => trivial
    by_cases hmj : m = j
    · subst hmj
      simp -dsimp -failIfUnchanged (maxSteps := 2000000) (disch := omega) only [VA, if_true_, if_false_, reduceIte, Nat.reduceEqDiff, Nat.reduceAdd, Nat.reduceMul, Nat.reduceSub, Int.reduceToNat, Int.reduceAdd, Int.reduceNeg, Int.reduceSub, Int.reduceMul, Int.reduceBEq, Int.reduceBNe, Int.reduceLT, Int.reduceLE, Int.reduceEq, beq_self_eq_true, Int.reducePow, Nat.reducePow, Int.reduceDiv, Nat.reduceLeDiff, reduceCtorEq, Tryz.f5, Tryz.results5, bC320, g0, g1, g2, g3, g4, g5, g6, g7, q2, hkj, _root_.bne]
      refine ih2 (m + 1) _ _ ?_ (by omega)
      simp -dsimp -failIfUnchanged (maxSteps := 2000000) (disch := omega) only [VA, if_true_, if_false_, reduceIte, Nat.reduceEqDiff, Nat.reduceAdd, Nat.reduceMul, Nat.reduceSub, Int.reduceToNat, Int.reduceAdd, Int.reduceNeg, Int.reduceSub, Int.reduceMul, Int.reduceBEq, Int.reduceBNe, Int.reduceLT, Int.reduceLE, Int.reduceEq, beq_self_eq_true, Int.reducePow, Nat.reducePow, Int.reduceDiv, Nat.reduceLeDiff, reduceCtorEq, Tryz.f5, Tryz.results5, bC320, g0, g1, g2, g3, g4, g5, g6, g7]
      exact ⟨trivial, trivial, trivial, trivial, trivial, trivial, trivial, by simp, by omega, hle5, hT5, hx5⟩
    · have k1 : ((m : Int) == (j : Int)) = false := beq_eq_false_iff_ne.2 (by omega)
      rw [if_neg hmj]
      cases k2 : (n == 0)
      · have k3 : ((0 : Int) == n) = false := by have := beq_eq_false_iff_ne.1 k2; exact beq_eq_false_iff_ne.2 (Ne.symm this)
        simp -dsimp -failIfUnchanged (maxSteps := 2000000) (disch := omega) only [VA, if_true_, if_false_, reduceIte, Nat.reduceEqDiff, Nat.reduceAdd, Nat.reduceMul, Nat.reduceSub, Int.reduceToNat, Int.reduceAdd, Int.reduceNeg, Int.reduceSub, Int.reduceMul, Int.reduceBEq, Int.reduceBNe, Int.reduceLT, Int.reduceLE, Int.reduceEq, beq_self_eq_true, Int.reducePow, Nat.reducePow, Int.reduceDiv, Nat.reduceLeDiff, reduceCtorEq, Tryz.f5, Tryz.results5, bC320, g0, g1, g2, g3, g4, g5, g6, g7, q2, hkj, k1, k2, k3, _root_.bne]
        refine ih2 (m + 1) _ _ ?_ (by omega)
        simp -dsimp -failIfUnchanged (maxSteps := 2000000) (disch := omega) only [VA, if_true_, if_false_, reduceIte, Nat.reduceEqDiff, Nat.reduceAdd, Nat.reduceMul, Nat.reduceSub, Int.reduceToNat, Int.reduceAdd, Int.reduceNeg, Int.reduceSub, Int.reduceMul, Int.reduceBEq, Int.reduceBNe, Int.reduceLT, Int.reduceLE, Int.reduceEq, beq_self_eq_true, Int.reducePow, Nat.reducePow, Int.reduceDiv, Nat.reduceLeDiff, reduceCtorEq, Tryz.f5, Tryz.results5, bC320, g0, g1, g2, g3, g4, g5, g6, g7]
        exact ⟨trivial, trivial, trivial, trivial, trivial, trivial, trivial, by simp, by omega, hle5, hT5, hx5⟩
      · have k3 : ((0 : Int) == n) = true := by have := eq_of_beq k2; subst this; rfl
        simp -dsimp -failIfUnchanged (maxSteps := 2000000) (disch := omega) only [VA, if_true_, if_false_, reduceIte, Nat.reduceEqDiff, Nat.reduceAdd, Nat.reduceMul, Nat.reduceSub, Int.reduceToNat, Int.reduceAdd, Int.reduceNeg, Int.reduceSub, Int.reduceMul, Int.reduceBEq, Int.reduceBNe, Int.reduceLT, Int.reduceLE, Int.reduceEq, beq_self_eq_true, Int.reducePow, Nat.reducePow, Int.reduceDiv, Nat.reduceLeDiff, reduceCtorEq, Tryz.f5, Tryz.results5, bC320, g0, g1, g2, g3, g4, g5, g6, g7, q2, hkj, k1, k2, k3, _root_.bne]
        refine ih2 (m + 1) _ _ ?_ (by omega)
        simp -dsimp -failIfUnchanged (maxSteps := 2000000) (disch := omega) only [VA, if_true_, if_false_, reduceIte, Nat.reduceEqDiff, Nat.reduceAdd, Nat.reduceMul, Nat.reduceSub, Int.reduceToNat, Int.reduceAdd, Int.reduceNeg, Int.reduceSub, Int.reduceMul, Int.reduceBEq, Int.reduceBNe, Int.reduceLT, Int.reduceLE, Int.reduceEq, beq_self_eq_true, Int.reducePow, Nat.reducePow, Int.reduceDiv, Nat.reduceLeDiff, reduceCtorEq, Tryz.f5, Tryz.results5, bC320, g0, g1, g2, g3, g4, g5, g6, g7]
        exact ⟨trivial, trivial, trivial, trivial, trivial, trivial, trivial, by simp, by omega, hle5, hT5, hx5⟩
  have q2 : decide ((m : Int) < 12) = false := decide_eq_false (by omega)
  simp -dsimp -failIfUnchanged (maxSteps := 2000000) (disch := omega) only [VA, if_true_, if_false_, reduceIte, Nat.reduceEqDiff, Nat.reduceAdd, Nat.reduceMul, Nat.reduceSub, Int.reduceToNat, Int.reduceAdd, Int.reduceNeg, Int.reduceSub, Int.reduceMul, Int.reduceBEq, Int.reduceBNe, Int.reduceLT, Int.reduceLE, Int.reduceEq, beq_self_eq_true, Int.reducePow, Nat.reducePow, Int.reduceDiv, Nat.reduceLeDiff, reduceCtorEq, Tryz.f5, Tryz.results5, bC320, g0, g1, g2, g3, g4, g5, g6, g7, q2]
  refine getN_W ?_
  simp -dsimp -failIfUnchanged (maxSteps := 2000000) (disch := omega) only [VA, if_true_, if_false_, reduceIte, Nat.reduceEqDiff, Nat.reduceAdd, Nat.reduceMul, Nat.reduceSub, Int.reduceToNat, Int.reduceAdd, Int.reduceNeg, Int.reduceSub, Int.reduceMul, Int.reduceBEq, Int.reduceBNe, Int.reduceLT, Int.reduceLE, Int.reduceEq, beq_self_eq_true, Int.reducePow, Nat.reducePow, Int.reduceDiv, Nat.reduceLeDiff, reduceCtorEq, Tryz.f5, Tryz.results5, bC320, g0, g1, g2, g3, g4, g5, g6, g7, Int.reduceBEq]
  refine listN_W ?_
  simp -dsimp -failIfUnchanged (maxSteps := 2000000) (disch := omega) only [VA, if_true_, if_false_, reduceIte, Nat.reduceEqDiff, Nat.reduceAdd, Nat.reduceMul, Nat.reduceSub, Int.reduceToNat, Int.reduceAdd, Int.reduceNeg, Int.reduceSub, Int.reduceMul, Int.reduceBEq, Int.reduceBNe, Int.reduceLT, Int.reduceLE, Int.reduceEq, beq_self_eq_true, Int.reducePow, Nat.reducePow, Int.reduceDiv, Nat.reduceLeDiff, reduceCtorEq, Tryz.f5, Tryz.results5, bC320, g0, g1, g2, g3, g4, g5, g6, g7, Int.reduceBEq]
  refine count_W (hB.le hle4) (hv.le hle4) (by omega) hall fun b5 H5 hb5 hle5 hT5 hp5 => ?_
  simp -dsimp -failIfUnchanged (maxSteps := 2000000) (disch := omega) only [VA, if_true_, if_false_, reduceIte, Nat.reduceEqDiff, Nat.reduceAdd, Nat.reduceMul, Nat.reduceSub, Int.reduceToNat, Int.reduceAdd, Int.reduceNeg, Int.reduceSub, Int.reduceMul, Int.reduceBEq, Int.reduceBNe, Int.reduceLT, Int.reduceLE, Int.reduceEq, beq_self_eq_true, Int.reducePow, Nat.reducePow, Int.reduceDiv, Nat.reduceLeDiff, reduceCtorEq, Tryz.f5, Tryz.results5, bC320, g0, g1, g2, g3, g4, g5, g6, g7, Int.reduceBEq]
  refine joinN_W rfl ?_
  simp -dsimp -failIfUnchanged (maxSteps := 2000000) (disch := omega) only [VA, if_true_, if_false_, reduceIte, Nat.reduceEqDiff, Nat.reduceAdd, Nat.reduceMul, Nat.reduceSub, Int.reduceToNat, Int.reduceAdd, Int.reduceNeg, Int.reduceSub, Int.reduceMul, Int.reduceBEq, Int.reduceBNe, Int.reduceLT, Int.reduceLE, Int.reduceEq, beq_self_eq_true, Int.reducePow, Nat.reducePow, Int.reduceDiv, Nat.reduceLeDiff, reduceCtorEq, Tryz.f5, Tryz.results5, bC320, g0, g1, g2, g3, g4, g5, g6, g7, Int.reduceBEq]
  have hle6 := Mem.le_trans hle4 hle5
  refine count_W (hB.le hle6) (hv.le hle6) (by omega) hall fun b7 H7 hb7 hle7 hT7 hp7 => ?_
  simp -dsimp -failIfUnchanged (maxSteps := 2000000) (disch := omega) only [VA, if_true_, if_false_, reduceIte, Nat.reduceEqDiff, Nat.reduceAdd, Nat.reduceMul, Nat.reduceSub, Int.reduceToNat, Int.reduceAdd, Int.reduceNeg, Int.reduceSub, Int.reduceMul, Int.reduceBEq, Int.reduceBNe, Int.reduceLT, Int.reduceLE, Int.reduceEq, beq_self_eq_true, Int.reducePow, Nat.reducePow, Int.reduceDiv, Nat.reduceLeDiff, reduceCtorEq, Tryz.f5, Tryz.results5, bC320, g0, g1, g2, g3, g4, g5, g6, g7, Int.reduceBEq]
  refine joinN2_W ?_
  simp -dsimp -failIfUnchanged (maxSteps := 2000000) (disch := omega) only [VA, if_true_, if_false_, reduceIte, Nat.reduceEqDiff, Nat.reduceAdd, Nat.reduceMul, Nat.reduceSub, Int.reduceToNat, Int.reduceAdd, Int.reduceNeg, Int.reduceSub, Int.reduceMul, Int.reduceBEq, Int.reduceBNe, Int.reduceLT, Int.reduceLE, Int.reduceEq, beq_self_eq_true, Int.reducePow, Nat.reducePow, Int.reduceDiv, Nat.reduceLeDiff, reduceCtorEq, Tryz.f5, Tryz.results5, bC320, g0, g1, g2, g3, g4, g5, g6, g7, Int.reduceBEq]
  have hle8 := Mem.le_trans hle6 hle7
  refine awake_W (hB.le hle8) fun H9 hle9 => ?_
  simp -dsimp -failIfUnchanged (maxSteps := 2000000) (disch := omega) only [VA, if_true_, if_false_, reduceIte, Nat.reduceEqDiff, Nat.reduceAdd, Nat.reduceMul, Nat.reduceSub, Int.reduceToNat, Int.reduceAdd, Int.reduceNeg, Int.reduceSub, Int.reduceMul, Int.reduceBEq, Int.reduceBNe, Int.reduceLT, Int.reduceLE, Int.reduceEq, beq_self_eq_true, Int.reducePow, Nat.reducePow, Int.reduceDiv, Nat.reduceLeDiff, reduceCtorEq, Tryz.f5, Tryz.results5, bC320, g0, g1, g2, g3, g4, g5, g6, g7, Int.reduceBEq]
  exact h _ (Mem.le_trans hle8 hle9)
end Go.Proofs.YtgkolnknobgcmaaGreat
end
section
namespace Go.Proofs.YtgkolnknobgcmaaGreat
open Go Go.Proofs.YtgkolnknobgcmaaGreatV Go.Shelf
set_option maxRecDepth 20000
set_option linter.unusedSimpArgs false
set_option linter.unusedVariables false
variable {H : Type} {enc : TypeId × Value → H} {w : World} {sp : Nat → Bool} {hd : Bool}

theorem pick_list {α : Type} {ff : α → List Value} {RR : α → Prop} : ∀ {css : List (List Value)}, (∀ cs ∈ css, ∃ a, cs = ff a ∧ RR a) → ∃ l : List α, css.flatten = l.flatMap ff ∧ l.length = css.length ∧ ∀ a ∈ l, RR a
  | [], _ => ⟨[], rfl, rfl, by simp⟩
  | cs :: css, h => by
    obtain ⟨a, rfl, ha⟩ := h cs (by simp)
    obtain ⟨l, h1, h2, h3⟩ := pick_list (css := css) (ff := ff) (RR := RR) fun c hc => h c (by simp [hc])
    exact ⟨a :: l, by simp [h1], by simp [h2], by simpa using ⟨ha, h3⟩⟩
theorem int64_wf {n : Int} (h : (Lit.int .i64 n).wf = true) : -9223372036854775808 ≤ n ∧ n ≤ 9223372036854775807 := by
  simp [Lit.wf, IntKind.min, IntKind.max, IntKind.bits, IntKind.signed] at h; omega
theorem base_of_shape (h : w.ShapedOpen Tryz.prog) : Base (snap w) := by
  obtain ⟨m, hm⟩ := cell_of_shapedOpen_int (zero := #[.int .i64 0]) (g := 0) h (by decide +kernel) (by kernel_rfl) (by kernel_rfl) (by kernel_rfl) (by kernel_rfl) Tryz.underlying3
  have hm' := hm
  unfold World.cell? at hm'
  split at hm'
  · rename_i c T fr hc
    simp only [Option.isSome_none, Bool.false_eq_true, if_false] at hm'
    exact ⟨⟨false, c.size, c.toList⟩, m, by simp only [snap]; simp only at hc; rw [hc], by rw [Array.getElem?_toList]; exact hm'⟩
  · cases hm'
/-- What a law's call comes to, out of its contract. -/
theorem calls_of_inv {P : Program} {fn : FuncId} {args : Array Value} (hb : hasBody P fn = true) (h : InvW P fn args (snap w) fun v H' => v = .bool true ∧ (snap w).le H') :
    Calls P fn args w fun e W' => e = .returned (.bool true) ∧ RowKit.Below w.heap.size w W' := by
  obtain ⟨nx, w', H', hr, hf, hn⟩ := h w (fits_snap w)
  rw [run_hasBody hb] at hr
  cases hr
  refine Calls.mono (hn w hf) ?_
  rintro x w2 ⟨v, H2, rfl, hf2, rfl, hle⟩
  exact ⟨rfl, ((hf2.3 w (hle.3 w rfl)).1).below⟩
theorem cz : Tryz.prog.cellsOf 63 = 8 := by kernel_rfl
theorem ck : Tryz.prog.cellsOf 5 = 1 := by kernel_rfl
theorem cs1 : Tryz.prog.cellsOf 9 = 1 := by kernel_rfl
theorem ci : Tryz.prog.cellsOf 3 = 1 := by kernel_rfl
theorem csaid : Tryz.prog.cellsOf 132 = 9 := by kernel_rfl
theorem cres : Tryz.prog.cellsOf 32 = 3 := by kernel_rfl
theorem csl : Tryz.prog.cellsOf 29 = 1 := by kernel_rfl
theorem csl2 : Tryz.prog.cellsOf 30 = 1 := by kernel_rfl
theorem cact : Tryz.prog.cellsOf 34 = 5 := by kernel_rfl
theorem stz_of_rd {cs : List Value} (h : Rd enc Tryz.prog w sp hd 63 cs) : ∃ z : Stz, cs = z.cells := by
  obtain ⟨hl, hf⟩ := rd_struct Tryz.underlying63 h
  rw [cz] at hl
  match cs, hl with
  | [c0, c1, c2, c3, c4, c5, c6, c7], _ =>
    simp only [List.forall_mem_cons, List.forall_mem_nil, and_true, ck, cs1, ci, List.drop_zero, List.drop_succ_cons, List.take_succ_cons, List.take_zero] at hf
    obtain ⟨f0, f1, f2, f3, f4, f5, f6, f7, _⟩ := hf
    obtain ⟨k, rfl, _⟩ := rd_int Tryz.underlying5 f0
    obtain ⟨u, rfl, _⟩ := rd_string Tryz.underlying9 f1
    obtain ⟨r, rfl, _⟩ := rd_string Tryz.underlying9 f2
    obtain ⟨n, rfl, _⟩ := rd_string Tryz.underlying9 f3
    obtain ⟨s, rfl, _⟩ := rd_int Tryz.underlying3 f4
    obtain ⟨p, rfl, _⟩ := rd_int Tryz.underlying3 f5
    obtain ⟨c, rfl, _⟩ := rd_int Tryz.underlying3 f6
    obtain ⟨x, rfl, _⟩ := rd_int Tryz.underlying3 f7
    exact ⟨⟨k, u, r, n, s, p, c, x⟩, rfl⟩
theorem said_of_rd {v : Value} (h : Rd enc Tryz.prog w sp hd 29 [v]) : ∃ l : List (Int × Stz), SrcV 9 (snap w) v l.length (saidC l) := by
  obtain ⟨css, hs, ha, _⟩ := rd_slice Tryz.underlying29 csaid (by decide) h
  obtain ⟨l, h1, h2, _⟩ := pick_list (ff := fun x : Int × Stz => .int .i64 x.1 :: x.2.cells) (RR := fun _ => True) (css := css) fun cs hc => by
    obtain ⟨hlen, hr⟩ := ha cs hc
    obtain ⟨hl, hf⟩ := rd_struct Tryz.underlying132 hr
    rw [csaid] at hl
    match cs, hl with
    | [c, c0, c1, c2, c3, c4, c5, c6, c7], _ =>
      simp only [List.forall_mem_cons, List.forall_mem_nil, and_true, ck, cs1, ci, cz, List.drop_zero, List.drop_succ_cons, List.take_succ_cons, List.take_zero] at hf
      obtain ⟨f0, f1, _⟩ := hf
      obtain ⟨n, rfl, _⟩ := rd_int Tryz.underlying3 f0
      obtain ⟨z, hz⟩ := stz_of_rd f1
      exact ⟨(n, z), by rw [← hz], trivial⟩
  exact ⟨l, by rw [h2, saidC_flat, ← h1]; exact hs⟩
theorem ints_of_rd {v : Value} (h : Rd enc Tryz.prog w sp hd 30 [v]) : ∃ a n c, v = .slice a n c := by
  obtain ⟨css, hs, _⟩ := rd_slice Tryz.underlying30 ci (by decide) h
  obtain ⟨a, c, rfl⟩ := hs.slice
  exact ⟨a, _, c, rfl⟩
theorem acts_of_rd {v : Value} (h : Rd enc Tryz.prog w sp hd 22 [v]) : ∃ l : List ActD, ActsAt (snap w) v l := by
  obtain ⟨css, hs, ha, _⟩ := rd_slice Tryz.underlying22 cact (by decide) h
  obtain ⟨l, h1, h2, h3⟩ := pick_list (ff := ActD.cells) (RR := fun a => a.at (snap w)) (css := css) fun cs hc => by
    obtain ⟨hlen, hr⟩ := ha cs hc
    obtain ⟨hl, hf⟩ := rd_struct Tryz.underlying34 hr
    rw [cact] at hl
    match cs, hl with
    | [c0, c1, c2, c3, c4], _ =>
      simp only [List.forall_mem_cons, List.forall_mem_nil, and_true, ck, cs1, ci, cres, List.drop_zero, List.drop_succ_cons, List.take_succ_cons, List.take_zero] at hf
      obtain ⟨f0, f1, f2, _⟩ := hf
      obtain ⟨_, hg⟩ := rd_struct Tryz.underlying32 f0
      simp only [List.forall_mem_cons, List.forall_mem_nil, and_true, ck, cs1, ci, csl, csl2, List.drop_zero, List.drop_succ_cons, List.take_succ_cons, List.take_zero] at hg
      obtain ⟨g0, g1, g2, _⟩ := hg
      obtain ⟨e, rfl, he⟩ := rd_int Tryz.underlying3 g0
      obtain ⟨said, hsaid⟩ := said_of_rd g1
      obtain ⟨sa, ns, sc, rfl⟩ := ints_of_rd g2
      obtain ⟨name, rfl, _⟩ := rd_string Tryz.underlying9 f1
      obtain ⟨n, rfl, hn⟩ := rd_int Tryz.underlying3 f2
      exact ⟨⟨e, said, c1, sa, ns, sc, name, n⟩, rfl, hsaid, (int64_wf hn).1, (int64_wf hn).2, (int64_wf he).1, (int64_wf he).2⟩
  exact ⟨l, by rw [h2, ← h1]; exact hs, h3⟩
end Go.Proofs.YtgkolnknobgcmaaGreat
end
