/- callboylaw36.TallyBytes: called with whatever list of stanzas, it returns true, and its arguments read behind the call as they read before. No condition. -/
import Derived.Test.YtgkolnknobgcmaaGreatPbBytes6
namespace Go.Proofs.YtgkolnknobgcmaaGreat
open Go Go.Proofs.YtgkolnknobgcmaaGreatV Go.Shelf
open Go.ChangeShapes Go.WideShapes Go.ChangeAt Go.RowKit
set_option linter.unusedSimpArgs false
set_option linter.unusedVariables false

theorem own : ownKnob Tryz.prog.godebug = none := by kernel_rfl
theorem laidOut : laidOutB Tryz.prog = true := by kernel_rfl

theorem stzs_of_rd {H : Type} {enc : TypeId × Value → H} {w : World} {sp : Nat → Bool} {hd : Bool} {v : Value} (h : Rd enc Tryz.prog w sp hd 59 [v]) : ∃ l : List Stz, SrcV 8 (snap w) v l.length (l.flatMap Stz.cells) := by
  obtain ⟨css, hs, ha, _⟩ := rd_slice Tryz.underlying59 cz (by decide) h
  obtain ⟨l, h1, h2, _⟩ := pick_list (ff := Stz.cells) (RR := fun _ => True) (css := css) fun cs hc => by
    obtain ⟨hlen, hr⟩ := ha cs hc
    obtain ⟨z, hz⟩ := stz_of_rd hr
    exact ⟨z, hz, trivial⟩
  exact ⟨l, by rw [h2, ← h1]; exact hs⟩

set_option maxRecDepth 100000 in
theorem tbytes_lifted (os : Os) (started : os.Started) (H : Type) (enc : TypeId × Value → H) :
    ReturnsInHanded {} Tryz.checked os 6 .any (Rows.tallyBytesSpec.pre6 enc Tryz.prog Tryz.f6 Rows.tallyBytesRow.domain false) (Rows.tallyBytesSpec.post enc Tryz.prog Tryz.f6 false true false false) := by
  refine returnsInHanded_of_change_shaped (C := Tryz.checked) own started (by kernel_rfl) Tryz.func6
    (ChangeSpec.witness6 (enc := enc) (C := Tryz.checked) false ⟨#[], #[.slice none 0 0], []⟩ 8 (by kernel_rfl) (by kernel_rfl) (by kernel_rfl) (by kernel_rfl)) ?_
  intro W base args ds gs before hval0 hW hcnd _ hsh _
  have hval : ∀ (j : Nat) t v, Tryz.f6.params[j]? = some t → args[j]? = some v → Value.okWide Tryz.prog W .any base t v := hval0
  have hW' := hW
  obtain ⟨p, q, hA0, hV, rfl, hfz, hnd⟩ := hW
  have hA : DataW.TrodAll enc Tryz.prog W 0 (fun _ => true) true Tryz.f6.params.toList args.toList ds p := hA0
  rw [Tryz.params6] at hA hval
  obtain ⟨v0, d0, rfl, rfl, h0⟩ := trodAll_one hA
  obtain ⟨rfl, rfl⟩ := trodVars_none hV
  have r0 := rd_of_trod h0
  obtain ⟨a0, len, cap, rfl⟩ := okWide_slice Tryz.underlying59 (hval 0 _ v0 rfl rfl)
  obtain ⟨l, hl⟩ := stzs_of_rd (show Rd enc Tryz.prog W (fun _ => true) true 59 [.slice a0 len cap] from r0)
  refine (calls_of_inv (w := W) (by decide +kernel) (tbytes_W (base_of_shape hsh) hl fun H' hle => ⟨rfl, hle⟩)).mono fun e W' ⟨he, hb⟩ => ?_
  subst he
  have hlt : ∀ x ∈ p, x.block < W.heap.size := fun x hx => by simpa using hW'.lt x (by simpa using hx)
  refine ⟨_, rfl, _, _, _, [], p, [], hW', trodAll_mk1 (shut_bool Tryz.underlying4 true), ?_, rfl, hb.frame _, fun h => by cases h⟩
  exact trodAll_mk1 (Below.trod laidOut (by kernel_rfl) (of_decide_eq_true (by kernel_rfl)) h0 hb fun x hx => hlt x (by simp [hx]))

theorem tbytes_holds : Rows.TallyBytesSaid :=
  OpenClaim.holds_of_wide 6 Tryz.f6 rfl rfl rfl rfl rfl rfl rfl ⟨rfl, rfl, rfl, rfl, rfl⟩ rfl rfl rfl rfl rfl (by kernel_rfl) Tryz.func6 (by kernel_rfl)
    (of_decide_eq_true (by kernel_rfl)) (by unfold Func.isWrapper; rw [if_neg (of_decide_eq_false (by kernel_rfl))]; exact ⟨rfl, rfl⟩)
    (fun os started H enc _ => tbytes_lifted os started H enc)
#print axioms tbytes_holds
end Go.Proofs.YtgkolnknobgcmaaGreat
