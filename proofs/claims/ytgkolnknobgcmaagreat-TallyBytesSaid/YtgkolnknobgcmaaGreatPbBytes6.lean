import Derived.Lib.Builder
import Derived.Lib.UnsafeStr
import Derived.Laws.Externs
import Derived.Test.YtgkolnknobgcmaaGreatPa5
/-! VFrz, VBld, C35, C36, P1, C37 -/
section
namespace Go.Proofs.YtgkolnknobgcmaaGreatV
open Go
def Mem.frz (H : Mem) (w : World) : Mem := ⟨fun b => (H b).map fun B => { B with rw := false }, fun _ => .none, some w, fun _ => .none⟩
theorem Stays.trans {u v w : World} (h : Stays u v) (k : Stays v w) : Stays u w :=
  ⟨k.os.trans h.os, k.output.trans h.output, Nat.le_trans h.size k.size, fun i hi => (k.block i (Nat.lt_of_lt_of_le hi h.size)).trans (h.block i hi), k.tape.trans h.tape⟩
theorem stays_of_below {B : Nat} {w w' : World} (h : RowKit.Below B w w') (hB : w.heap.size ≤ B) : Stays w w' := ⟨h.os, h.output, h.size, fun i hi => h.block i (by omega), h.tape⟩
theorem fits_stays {H : Mem} {w0 w : World} (h : Fits w0 H) (k : Stays w0 w) : Fits w H := by
  have old : ∀ {b : Nat} {o : Obj}, w0.heap[b]? = some o → w.heap[b]? = some o := fun {b o} hb => by
    have hlt : b < w0.heap.size := by
      rcases Nat.lt_or_ge b w0.heap.size with h | h
      · exact h
      · simp [Array.getElem?_eq_none h] at hb
    rw [k.block b hlt]; exact hb
  refine ⟨fun b B hB => ?_, fun b x hx => ?_, fun u hu => ?_, fun b x hb => ?_⟩
  · obtain ⟨o, h1, h2⟩ := h.1 b B hB
    exact ⟨o, old h1, h2⟩
  · obtain ⟨h1, h2⟩ := h.2 b x hx
    exact ⟨h1, old h2⟩
  · obtain ⟨h1, h2, h3⟩ := h.3 u hu
    exact ⟨h1.trans k, h2, h3⟩
  · obtain ⟨c, hc, hs⟩ := h.4 b x hb
    exact ⟨c, old hc, hs⟩
theorem fits_frz {H : Mem} {w0 w : World} (h : Fits w0 H) (k : Stays w0 w) : Fits w (H.frz w) := by
  have h' := fits_stays h k
  refine ⟨fun b B hB => ?_, fun b x hx => (nomatch hx), fun u hu => ?_, fun b x hb => (nomatch hb)⟩
  · simp only [Mem.frz] at hB
    obtain ⟨C, hC, rfl⟩ := Option.map_eq_some_iff.1 hB
    obtain ⟨o, h1, c, T, lo, hi, rfl, h2, h3, _⟩ := h'.1 b C hC
    exact ⟨_, h1, c, T, lo, hi, rfl, h2, h3, fun hh => by cases hh⟩
  · cases hu
    refine ⟨Stays.refl _, fun b B hB hr => ?_, fun b x hx => (nomatch hx)⟩
    simp only [Mem.frz] at hB
    obtain ⟨C, hC, rfl⟩ := Option.map_eq_some_iff.1 hB
    cases hr
theorem frz_read {H : Mem} {w : World} {a : Addr} {n : Nat} {vs : List Value} (h : H.read a n = some vs) : (H.frz w).read a n = some vs := by
  obtain ⟨b, o, B, rfl, hB, hle, rfl⟩ := read_parts h
  simp only [Mem.read, Mem.frz, hB, Option.map_some, Option.bind_some, Blk.read]
  rw [if_pos hle]
theorem frz_k {H : Mem} {w : World} : (H.frz w).k = some w := rfl
section
variable {P : Program} {H : Mem}
/-- Whoever keeps the world's blocks keeps all that was known. -/
theorem invW_frz {f : FuncId} {args : Array Value} {K : Value → Mem → Prop} (hb : hasBody P f = true)
    (h : ∀ w, Fits w H → InvW P f args (H.frz w) fun v H' => (∃ w1, H'.k = some w1 ∧ Stays w w1) ∧ K v H) : InvW P f args H K := by
  refine invW_of_calls hb fun w hw => ?_
  obtain ⟨nx, w', H', hr, hf, hn⟩ := h w hw w (fits_frz hw (Stays.refl w))
  rw [run_hasBody hb] at hr
  cases hr
  refine Calls.mono (hn w hf) ?_
  rintro x w2 ⟨v, H2, rfl, hf2, ⟨w1, hk, hs⟩, hK⟩
  exact ⟨v, H, rfl, fits_stays hw (hs.trans (hf2.3 w1 hk).1), hK⟩
/-- A region that is one new variable, seen in the whole world. -/
theorem alloc_frz {n id : Nat} {r : Option Nat} {T U : TypeId} {d : Tmp} {p : String} {ed : Array Edge} {z : List Value} {F : Mem} {w0 : World} {Q : Exit → Env → Mem → Prop} {e : Env} (hz : tzero P T = some z) (hd : d < n)
    (hle : F.le H) (hk : H.k = some w0) (hF : Fits w0 F)
    (h : ∀ b w1, w0.heap.size ≤ b → Stays w0 w1 → w1.heap[b]? = some (.cells z.toArray T (0, 0)) → b < w1.heap.size → Q .normal (e.set d (.pointer (some ⟨b, 0, none⟩))) (F.frz w1)) :
    CodeW P n r (.region id #[⟨some d, .alloc T, U, p, ed, none⟩] false) Q e H := by
  intro a w ha hw
  refine wpIn_region_list ?_
  show wpListIn (GF r) 0 P _ _ [⟨some d, .alloc T, U, p, ed, none⟩] a w
  unfold wpListIn
  rw [if_pos (wanted_none rfl)]
  have hs : SemW P (execOp (ev e) ⟨some d, .alloc T, U, p, ed, none⟩) H fun v H' => ∃ b w1, v = .pointer (some ⟨b, 0, none⟩) ∧ H' = F.frz w1 ∧ w0.heap.size ≤ b ∧ Stays w0 w1 ∧ w1.heap[b]? = some (.cells z.toArray T (0, 0)) ∧ b < w1.heap.size := by
    intro w hw
    obtain ⟨zv, hzr, hzc⟩ := run_tzero (w := w) hz
    have hst := (hw.3 w0 hk).1
    have hst' : Stays w0 (w.alloc (.cells zv.cells T)) := hst.trans ⟨rfl, rfl, by show _ ≤ (w.heap.push _).size; simp, fun i hi => by show (w.heap.push _)[i]? = _; rw [Array.getElem?_push_lt hi]; simp [Array.getElem?_eq_getElem hi], rfl⟩
    refine ⟨.value (.pointer (some ⟨w.heap.size, 0, none⟩)), w.alloc (.cells zv.cells T), F.frz (w.alloc (.cells zv.cells T)), ?_, fits_frz hF hst', w.heap.size, _, rfl, rfl, hst.size, hst', ?_, ?_⟩
    · simp [execOp, Instr.alloc, hzr, newVar, newRow, newObj, Sem.run]
    · rw [World.alloc_heap_new, ← hzc]
    · show w.heap.size < (w.heap.push _).size; simp
  refine sem_wp ha hw hs (by simp) ?_
  rintro v w' H' hf ⟨b, w1, rfl, rfl, h1, h2, h3, h4⟩
  show liftQ n Q .normal _ _
  exact ⟨_, _, ha.put (d := some d) (fun t ht => by cases ht; exact hd) _, hf, h b w1 h1 h2 h3 h4⟩
end
end Go.Proofs.YtgkolnknobgcmaaGreatV
end
section
namespace Go.Proofs.YtgkolnknobgcmaaGreatV
open Go
set_option linter.unusedSimpArgs false
set_option linter.unusedVariables false
/-- A slice of bytes of one's own, in a row of elements te. -/
def BufV (te : TypeId) (H0 : Mem) (v : Value) (cs : List Value) (H : Mem) : Prop :=
  (v = .slice .none 0 0 ∧ cs = [] ∧ H = H0) ∨
  ∃ g cap, H0 g = .none ∧ H0.p g = .none ∧ v = .slice (some ⟨g, 0, .none⟩) cs.length cap ∧ cs.length ≤ cap ∧ cap ≠ 0 ∧ H = (H0.upd g ⟨true, cap, cs⟩).mark g (te, cap)
theorem BufV.le {te : TypeId} {H0 H : Mem} {v : Value} {cs : List Value} (h : BufV te H0 v cs H) : H0.le H := by
  rcases h with ⟨_, _, rfl⟩ | ⟨g, cap, hg, hp, _, _, _, rfl⟩
  · exact H.le_refl
  · exact Mem.le_mark (Mem.le_upd hg _) hp _
theorem BufV.slice {te : TypeId} {H0 H : Mem} {v : Value} {cs : List Value} (h : BufV te H0 v cs H) : ∃ a n c, v = .slice a n c := by
  rcases h with ⟨rfl, _⟩ | ⟨_, _, _, _, rfl, _⟩ <;> exact ⟨_, _, _, rfl⟩
theorem bs_dat (l : List UInt8) : (bs l).data = l.toArray := rfl
theorem strCells_bs (l : List UInt8) : Lib.strCells (bs l) = byC l := by simp [Lib.strCells, byC, bs]
/-- A builder with the bytes l. -/
def Bld (te tb : TypeId) (b : Nat) (H0 : Mem) (l : List UInt8) (H : Mem) : Prop :=
  ∃ ad v, (ad = .pointer .none ∨ ad = .pointer (some ⟨b, 0, .none⟩)) ∧ BufV te ((H0.upd b ⟨true, 2, [ad, v]⟩).mark b (tb, 2)) v (byC l) H
section
variable {P : Program} {H : Mem}
theorem upd_id {b : Nat} {B : Blk} (hb : H b = some B) : H.upd b B = H := by
  obtain ⟨c, o, k, p⟩ := H
  simp only [Mem.upd, Mem.mk.injEq, and_true]
  funext x
  split
  · rename_i e; subst e; exact hb.symm
  · rfl
theorem BufV.at {te : TypeId} {H0 : Mem} {v : Value} {cs : List Value} (h : BufV te H0 v cs H) {x : Nat} {B : Blk} (hx : H0 x = some B) : H x = some B := by
  rcases h with ⟨_, _, rfl⟩ | ⟨g, cap, hg, hp, _, _, _, rfl⟩
  · exact hx
  · have : x ≠ g := by rintro rfl; rw [hg] at hx; cases hx
    simp [Mem.upd, Mem.mark, this, hx]
theorem BufV.atP {te : TypeId} {H0 : Mem} {v : Value} {cs : List Value} (h : BufV te H0 v cs H) {x : Nat} {y : TypeId × Nat} (hx : H0.p x = some y) : H.p x = some y := h.le.4 x y hx
theorem BufV.reup {te : TypeId} {H0 : Mem} {v : Value} {cs : List Value} (h : BufV te H0 v cs H) {x : Nat} {B : Blk} (hx : H0 x = some B) (C : Blk) : BufV te (H0.upd x C) v cs (H.upd x C) := by
  rcases h with ⟨h1, h2, rfl⟩ | ⟨g, cap, hg, hp, h1, h2, h3, rfl⟩
  · exact .inl ⟨h1, h2, rfl⟩
  · have hne : x ≠ g := by rintro rfl; rw [hg] at hx; cases hx
    refine .inr ⟨g, cap, by simp [Mem.upd, Ne.symm hne, hg], hp, h1, h2, h3, ?_⟩
    show ((H0.upd g _).upd x C).mark g _ = ((H0.upd x C).upd g _).mark g _
    rw [upd_comm hne]
theorem fits_grow_mark {w : World} {H0 : Mem} (hw : Fits w H) (hl : H0.le H) (c : Array Value) (te : TypeId) {cs : List Value} (hp : cs <+: c.toList) (hc : cs.length ≤ c.size) : Fits (w.drew.alloc (.cells c te)) ((H0.upd w.heap.size ⟨true, c.size, cs⟩).mark w.heap.size (te, c.size)) := by
  have h1 := fits_grown (hw.mono hl) c te hp (Nat.le_refl _)
  exact fits_mark h1 ⟨c, by show (w.drew.heap.push _)[_]? = _; exact Array.getElem?_push_size, rfl⟩
/-- append(buf, s...). -/
theorem append_buf {T u U te : TypeId} {i : TypeInfo} (hT : P.underlying T = some (.slice te)) (hu : P.underlying u = some .string) (hi : P.info? te = some i) (hz : i.zero = some (.int .u8 0)) (hs : i.size = 1) (hby : i.bytes = 1)
    {H0 : Mem} {v : Value} {cs : List Value} (ho : BufV te H0 v cs H) {l : List UInt8} (hl : cs.length + l.length ≤ 140737488355328) {K : Value → Mem → Prop}
    (hK : ∀ v' H', BufV te H0 v' (cs ++ byC l) H' → K v' H') : ValW P (Builtin.append_ #[T, u] U #[v, .string (bs l)]) H K := by
  intro w hw
  have hsz : (bs l).size = l.length := bs_size l
  rcases ho with ⟨rfl, rfl, rfl⟩ | ⟨g, cap, hg, hp, rfl, hlc, hc0, rfl⟩
  · by_cases h0 : l = []
    · subst h0
      refine ⟨.slice .none 0 0, w, H, ?_, hw, hK _ _ (.inl ⟨rfl, by simp [byC], rfl⟩)⟩
      have hf := Lib.run_firstCells_string (P := P) w 1 (bs [])
      simp [Builtin.append_, run_underlying hT, run_underlying hu, sizeOf, typeInfo, hi, hs, Builtin.lenOf, hsz, Builtin.firstCells]
    · have hpos : 0 < l.length := List.length_pos_iff.2 h0
      have hr := run_append_nil_string (P := P) w T u U te i (.int .u8 0) hT hu hi hz (bs l) (by omega) (by omega) (by rw [hby]; omega)
      have hge := grownCap_ge w l.length 0 te
      rw [hsz] at hr
      have hcs : ((bs l).data.map (fun b => Value.int .u8 b.toNat) ++ Builtin.zeroCells (Value.int .u8 0).cells (grownCap w l.length 0 te - l.length)).size = grownCap w l.length 0 te := by
        have hz1 : (Value.int IntKind.u8 0).cells.size = 1 := rfl
        simp only [Array.size_append, Array.size_map, size_zeroCells, hz1, bs_dat, List.size_toArray]; omega
      have hf := fits_grow_mark (H0 := H) hw H.le_refl ((bs l).data.map (fun b => Value.int .u8 b.toNat) ++ Builtin.zeroCells (Value.int .u8 0).cells (grownCap w l.length 0 te - l.length)) te (cs := byC l) (by simp [bs_dat, byC]) (by rw [hcs, byC_length]; exact hge)
      rw [hcs] at hf
      refine ⟨_, _, _, hr, hf, hK _ _ (.inr ⟨w.heap.size, grownCap w l.length 0 te, hw.fresh, hw.freshP, by simp [byC_length], by simpa [byC_length] using hge, by omega, by simp⟩)⟩
  · by_cases hroom : cs.length + l.length ≤ cap
    · have hb : ((H0.upd g ⟨true, cap, cs⟩).mark g (te, cap)) g = some ⟨true, cap, cs⟩ := upd_get _ _
      obtain ⟨w', hst, hf⟩ := run_store_behind (P := P) (news := byC l) hw hb (by rw [byC_length]; exact hroom) (byC_one l)
      have hfc := Lib.run_firstCells_string (P := P) w 1 (bs l)
      rw [hsz, strCells_bs] at hfc
      refine ⟨.slice (some ⟨g, 0, .none⟩) (cs.length + l.length) cap, w', _, ?_, hf, hK _ _ (.inr ⟨g, cap, hg, hp, by simp [byC_length], by simpa [byC_length] using hroom, hc0, ?_⟩)⟩
      · simp [Builtin.append_, run_underlying hT, run_underlying hu, sizeOf, typeInfo, hi, hs, Builtin.lenOf, hsz, hroom, hfc, add_none, hst]
      · simp only [Mem.upd, Mem.mark, Mem.mk.injEq, and_true]
        funext c; split <;> rfl
    · have hread : ((H0.upd g ⟨true, cap, cs⟩).mark g (te, cap)).read ⟨g, 0, .none⟩ (cs.length * i.size) = some cs := by
        rw [hs, Nat.mul_one]
        simp only [Mem.read, mark_get, upd_get, Option.bind_some, Blk.read]
        rw [if_pos (by simp), List.drop_zero, List.take_length]
      obtain ⟨hlo, hco⟩ := src_cells hw hread
      have hr := Lib.run_append_grow_string (P := P) w T u U te i (.int .u8 0) hT hu hi hz ⟨g, 0, .none⟩ cs.length cap cs hlo hco (bs l) (by omega) (by omega) (by rw [hby]; exact growslice_fits (by omega) (by omega))
      rw [hsz, strCells_bs] at hr
      have hge := grownCap_ge w (cs.length + l.length) cap te
      have hcs : (cs.toArray ++ (byC l).toArray ++ Builtin.zeroCells (Value.int .u8 0).cells (grownCap w (cs.length + l.length) cap te - (cs.length + l.length))).size = grownCap w (cs.length + l.length) cap te := by
        have hz1 : (Value.int IntKind.u8 0).cells.size = 1 := rfl
        simp only [Array.size_append, size_zeroCells, hz1, List.size_toArray, byC_length]; omega
      have hle : H0.le ((H0.upd g ⟨true, cap, cs⟩).mark g (te, cap)) := Mem.le_mark (Mem.le_upd hg _) hp _
      have hf := fits_grow_mark hw hle (cs.toArray ++ (byC l).toArray ++ Builtin.zeroCells (Value.int .u8 0).cells (grownCap w (cs.length + l.length) cap te - (cs.length + l.length))) te (cs := cs ++ byC l) (by simp) (by rw [hcs]; simpa [byC_length] using hge)
      rw [hcs] at hf
      have hfr := hw.fresh
      have hfp := hw.freshP
      have hbn : w.heap.size ≠ g := by intro h; rw [h] at hfr; simp [Mem.upd, Mem.mark] at hfr
      refine ⟨_, _, _, hr, hf, hK _ _ (.inr ⟨w.heap.size, _, by simpa [Mem.upd, Mem.mark, hbn] using hfr, by simpa [Mem.upd, Mem.mark, hbn] using hfp, by simp [byC_length], by simpa [byC_length] using hge, ?_, rfl⟩)⟩
      intro h0
      rw [h0] at hge
      have hc' : cs.length = 0 := by omega
      have : cap < cs.length + l.length := by omega
      omega
/-- The buffer's bytes become a text; the row is frozen, and forgotten. -/
theorem fits_freeze {w : World} {H0 : Mem} {g cap n : Nat} {cs : List Value} {x : TypeId × Nat} (hw : Fits w ((H0.upd g ⟨true, cap, cs⟩).mark g x)) (hg : H0 g = .none) (hp : H0.p g = .none) : Fits (w.freeze ⟨g, 0, .none⟩ n) H0 := by
  have hbelow : ∀ k, k ≠ g → (w.freeze ⟨g, 0, .none⟩ n).heap[k]? = w.heap[k]? := fun k hk => by
    unfold World.freeze
    split
    · rfl
    · simp only [Array.getElem?_modify]
      rw [if_neg (fun h => hk h.symm)]
  have hbase := hw.mono (Mem.le_mark (Mem.le_upd hg _) hp x)
  have hgb : ((H0.upd g ⟨true, cap, cs⟩).mark g x) g = some ⟨true, cap, cs⟩ := upd_get _ _
  obtain ⟨og, hog, cg, Tg, lo, hi, rfl, _⟩ := hw.1 g _ hgb
  refine ⟨fun b B hB => ?_, fun b y hy => ?_, fun u hu => ?_, fun b y hy => ?_⟩
  · have hne : b ≠ g := by rintro rfl; rw [hg] at hB; cases hB
    rw [hbelow b hne]; exact hbase.1 b B hB
  · obtain ⟨h1, h2⟩ := hbase.2 b y hy
    have hne : b ≠ g := by rintro rfl; rw [hog] at h2; cases h2; simp [noCells] at h1
    exact ⟨h1, by rw [hbelow b hne]; exact h2⟩
  · obtain ⟨h1, h2, h3⟩ := hbase.3 u hu
    have hug := (hw.3 u hu).2.1 g _ hgb rfl
    have hst : Stays w (w.freeze ⟨g, 0, .none⟩ n) ∨ True := .inr trivial
    refine ⟨⟨?_, ?_, ?_, fun k hk => ?_, ?_⟩, h2, h3⟩
    · rw [← h1.os]; unfold World.freeze; split <;> rfl
    · rw [← h1.output]; unfold World.freeze; split <;> rfl
    · refine Nat.le_trans h1.size ?_
      unfold World.freeze; split <;> simp
    · rw [hbelow k (by omega)]; exact h1.block k hk
    · rw [← h1.tape]; unfold World.freeze; split <;> rfl
  · have hne : b ≠ g := by rintro rfl; rw [hp] at hy; cases hy
    obtain ⟨c, h1, h2⟩ := hbase.4 b y hy
    exact ⟨c, by rw [hbelow b hne]; exact h1, h2⟩
theorem semW_ustring {e : Env} {x y : Operand} {pt it U te : TypeId} {d : Option Tmp} {p : String} {ed : Array Edge} {g : Option (Nat × Bool)} {K : Value → Mem → Prop} {H0 : Mem} {gb cap : Nat} {l : List UInt8}
    (hx : ev e x = .pointer (some ⟨gb, 0, .none⟩)) (hy : ev e y = .int .i64 l.length) (hpt : P.underlying pt = some (.pointer te)) (hc : P.cellsOf te = 1) (h0 : l ≠ []) (h63 : l.length ≤ 9223372036854775807)
    (hg : H0 gb = .none) (hp : H0.p gb = .none) (hcap : l.length ≤ cap) (hH : H = (H0.upd gb ⟨true, cap, byC l⟩).mark gb (te, cap)) (h : K (.string (bs l)) H0) :
    SemW P (execOp (ev e) ⟨d, .call ⟨.builtin .unsafeString, #[x, y], #[pt, it]⟩, U, p, ed, g⟩) H K := by
  intro w hw
  subst hH
  obtain ⟨c, hcell, hcz⟩ := hw.4 gb (te, cap) mark_p
  have hsh : w.shape? gb = some (te, cap) := by simp only at hcell hcz; simp [World.shape?, hcell, hcz]
  have hr := Lib.run_unsafeString_row (P := P) w pt it U te hpt hc gb cap hsh l h0 hcap h63 (fun j x hj => by
    rw [add_none]
    exact hw.cell (b := gb) (B := ⟨true, cap, byC l⟩) (upd_get _ _) (by simp [byC, hj]))
  refine ⟨.value (.string (bs l)), w.freeze ⟨gb, 0, .none⟩ l.length, H0, ?_, fits_freeze hw hg hp, h⟩
  simp [execOp, resolve, invoke, builtin, hx, hy, hr]; rfl
theorem semW_ustring0 {e : Env} {x y : Operand} {pt it U : TypeId} {d : Option Tmp} {p : String} {ed : Array Edge} {g : Option (Nat × Bool)} {K : Value → Mem → Prop} {a : Option Addr}
    (hx : ev e x = .pointer a) (hy : ev e y = .int .i64 0) (h : K (.string (bs [])) H) :
    SemW P (execOp (ev e) ⟨d, .call ⟨.builtin .unsafeString, #[x, y], #[pt, it]⟩, U, p, ed, g⟩) H K := by
  intro w hw
  refine ⟨.value (.string (bs [])), w, H, ?_, hw, h⟩
  have hr := Lib.run_unsafeString_none (P := P) w pt it U a
  simp [execOp, resolve, invoke, builtin, hx, hy, hr]; rfl
/-- A pointer is not other than itself. -/
theorem semW_neqP {e : Env} {T U V0 te : TypeId} {x y : Operand} {d : Option Tmp} {p : String} {ed : Array Edge} {g : Option (Nat × Bool)} {K : Value → Mem → Prop} {a : Addr} {j : TypeInfo}
    (hx : ev e x = .pointer (some a)) (hy : ev e y = .pointer (some a)) (hu : P.underlying T = some (.pointer te)) (ht : P.info? te = some j) (h : K (.bool false) H) :
    SemW P (execOp (ev e) ⟨d, .binOp .neq T x y U, V0, p, ed, g⟩) H K := by
  intro w hw
  refine ⟨.value (.bool false), w, H, ?_, hw, h⟩
  have := Lib.run_neq_ptr_same (P := P) w a hu ht
  simp [execOp, hx, hy, run_eqGuard (P := P) (w := w) .neq T x y (a := .pointer (some a)) (b := .pointer (some a)) (by simp) (by simp), this]
theorem to_unsafe {S D t te : TypeId} {j : TypeInfo} {b n : Nat} (hs : P.underlying S = some (.pointer t)) (hd : P.underlying D = some .unsafePointer) (ht : P.info? t = some j) (hj : j.size ≠ 0) (hp : H.p b = some (te, n)) (hn : 0 < n) {K : Value → Mem → Prop}
    (h : K (.pointer (some ⟨b, 0, .none⟩)) H) : ValW P (convert S D (.pointer (some ⟨b, 0, .none⟩))) H K := by
  intro w hw
  obtain ⟨c, hcell, hcz⟩ := hw.4 b _ hp
  have hsh : w.shape? b = some (te, n) := by simp only at hcell hcz; simp [World.shape?, hcell, hcz]
  exact ⟨_, w, H, Lib.run_to_unsafe w ⟨b, 0, .none⟩ hs hd ht hj hsh hn, hw, h⟩
theorem from_unsafe {S D t te : TypeId} {j : TypeInfo} {b n : Nat} (hs : P.underlying S = some .unsafePointer) (hd : P.underlying D = some (.pointer t)) (ht : P.info? t = some j) (hp : H.p b = some (te, n)) (hl : liesAt P P.depth te (n / P.cellsOf te) 0 t 1 = true) {K : Value → Mem → Prop}
    (h : K (.pointer (some ⟨b, 0, .none⟩)) H) : ValW P (convert S D (.pointer (some ⟨b, 0, .none⟩))) H K := by
  intro w hw
  obtain ⟨c, hcell, hcz⟩ := hw.4 b _ hp
  have hsh : w.shape? b = some (te, n) := by simp only at hcell hcz; simp [World.shape?, hcell, hcz]
  exact ⟨_, w, H, Lib.run_from_unsafe w ⟨b, 0, .none⟩ hs hd ht hsh hl, hw, h⟩
/-- A region whose operation k is a new variable (of the zero), whose row is known. -/
theorem semW_alloc_mark {e : Env} {T U : TypeId} {d : Option Tmp} {p : String} {ed : Array Edge} {g : Option (Nat × Bool)} {z : List Value} {K : Value → Mem → Prop} (hz : tzero P T = some z)
    (h : ∀ n, H n = .none → H.p n = .none → K (.pointer (some ⟨n, 0, .none⟩)) ((H.upd n ⟨true, z.length, z⟩).mark n (T, z.length))) : SemW P (execOp (ev e) ⟨d, .alloc T, U, p, ed, g⟩) H K := by
  intro w hw
  obtain ⟨zv, hzr, hzc⟩ := run_tzero (w := w) hz
  refine ⟨.value (.pointer (some ⟨w.heap.size, 0, .none⟩)), w.alloc (.cells zv.cells T), _, by simp [execOp, Instr.alloc, hzr, newVar, newRow, newObj, Sem.run], ?_, h _ hw.fresh hw.freshP⟩
  have h1 := fits_mark (hw.alloc zv.cells T) (x := (T, zv.cells.size)) ⟨_, World.alloc_heap_new w _, rfl⟩
  have e1 : zv.cells.size = z.length := by rw [← hzc]; simp
  have e2 : zv.cells.toList = z := by rw [← hzc]
  rw [e1, e2] at h1
  exact h1
theorem alloc_mark {n id : Nat} {r : Option Nat} {T U : TypeId} {d : Tmp} {p : String} {ed : Array Edge} {z : List Value} {Q : Exit → Env → Mem → Prop} {e : Env} (hz : tzero P T = some z) (hd : d < n)
    (h : ∀ b, H b = .none → H.p b = .none → Q .normal (e.set d (.pointer (some ⟨b, 0, .none⟩))) ((H.upd b ⟨true, z.length, z⟩).mark b (T, z.length))) :
    CodeW P n r (.region id #[⟨some d, .alloc T, U, p, ed, .none⟩] false) Q e H := by
  intro a w ha hw
  refine wpIn_region_list ?_
  show wpListIn (GF r) 0 P _ _ [⟨some d, .alloc T, U, p, ed, .none⟩] a w
  unfold wpListIn
  rw [if_pos (wanted_none rfl)]
  refine sem_wp (K := fun v H2 => ∃ m, H m = .none ∧ H.p m = .none ∧ v = .pointer (some ⟨m, 0, .none⟩) ∧ H2 = (H.upd m ⟨true, z.length, z⟩).mark m (T, z.length)) ha hw (semW_alloc_mark hz fun m hm hp => ⟨m, hm, hp, rfl, rfl⟩) (by simp) ?_
  rintro v w' H' hf ⟨b, h1, h2, rfl, rfl⟩
  show liftQ n Q .normal _ _
  exact ⟨_, _, ha.put (d := some d) (fun t ht => by cases ht; exact hd) _, hf, h b h1 h2⟩
end
end Go.Proofs.YtgkolnknobgcmaaGreatV
end
section
namespace Go.Proofs.YtgkolnknobgcmaaGreat
open Go Go.Proofs.YtgkolnknobgcmaaGreatV Go.Shelf
set_option maxRecDepth 20000
set_option linter.unusedSimpArgs false
set_option linter.unusedVariables false
set_option maxHeartbeats 4000000
theorem bC350 : type_of% @Tryz.underlying223 ∧ type_of% @ty223 ∧ type_of% @zero223 ∧ type_of% @Tryz.underlying225 ∧ type_of% @elt225 ∧ type_of% @fld225_0 ∧ type_of% @fld225_1 ∧ type_of% @flds225 ∧ type_of% @ty225 ∧ type_of% @zero225 ∧ type_of% @Tryz.underlying303 ∧ type_of% @Tryz.ntmps173 := ⟨@Tryz.underlying223, @ty223, @zero223, @Tryz.underlying225, @elt225, @fld225_0, @fld225_1, @flds225, @ty225, @zero225, @Tryz.underlying303, @Tryz.ntmps173⟩
theorem bC351 : type_of% @Tryz.underlying9 ∧ type_of% @ty9 ∧ type_of% @zero9 ∧ type_of% @Tryz.underlying183 ∧ type_of% @einf183 ∧ type_of% @elt183 ∧ type_of% @ty183 ∧ type_of% @zero183 ∧ type_of% @Tryz.underlying223 ∧ type_of% @ty223 ∧ type_of% @zero223 ∧ type_of% @Tryz.underlying225 ∧ type_of% @elt225 ∧ type_of% @fld225_0 ∧ type_of% @fld225_1 ∧ type_of% @flds225 ∧ type_of% @ty225 ∧ type_of% @zero225 ∧ type_of% @Tryz.ntmps118 := ⟨@Tryz.underlying9, @ty9, @zero9, @Tryz.underlying183, @einf183, @elt183, @ty183, @zero183, @Tryz.underlying223, @ty223, @zero223, @Tryz.underlying225, @elt225, @fld225_0, @fld225_1, @flds225, @ty225, @zero225, @Tryz.ntmps118⟩
theorem bC352 : type_of% @Tryz.underlying3 ∧ type_of% @ty3 ∧ type_of% @zero3 ∧ type_of% @Tryz.underlying183 ∧ type_of% @einf183 ∧ type_of% @elt183 ∧ type_of% @ty183 ∧ type_of% @zero183 ∧ type_of% @Tryz.underlying225 ∧ type_of% @elt225 ∧ type_of% @fld225_0 ∧ type_of% @fld225_1 ∧ type_of% @flds225 ∧ type_of% @ty225 ∧ type_of% @zero225 ∧ type_of% @Tryz.underlying280 ∧ type_of% @ty280 ∧ type_of% @zero280 ∧ type_of% @Tryz.ntmps119 := ⟨@Tryz.underlying3, @ty3, @zero3, @Tryz.underlying183, @einf183, @elt183, @ty183, @zero183, @Tryz.underlying225, @elt225, @fld225_0, @fld225_1, @flds225, @ty225, @zero225, @Tryz.underlying280, @ty280, @zero280, @Tryz.ntmps119⟩
variable {H : Mem} {K : Value → Mem → Prop}

theorem noEscape_W {v : Value} (h : K v H) : InvW Tryz.prog 196 #[v] H K :=
  fun w hw => ⟨.value v, w, H, by rw [run_callFunc_extern Tryz.func196 (by kernel_rfl) (by kernel_rfl) (by kernel_rfl) (e := Extern.AbiNoEscape.same) (by kernel_rfl), Lib.run_noEscape]; rfl, hw, h⟩
theorem lies_builder : liesAt Tryz.prog Tryz.prog.depth 225 (2 / Tryz.prog.cellsOf 225) 0 225 1 = true := by kernel_rfl
theorem info_builder : ∃ j, Tryz.prog.info? 225 = some j ∧ j.size ≠ 0 := by
  have h : (Tryz.prog.info? 225).map (fun i => decide (i.size = 0)) = some false := by kernel_rfl
  cases hi : Tryz.prog.info? 225 with
  | none => rw [hi] at h; cases h
  | some j => rw [hi] at h; exact ⟨j, rfl, by simpa using h⟩
theorem copyCheck_W {b : Nat} {ad v : Value} (hb : H b = some ⟨true, 2, [ad, v]⟩) (hp : H.p b = some (225, 2)) (had : ad = .pointer none ∨ ad = .pointer (some ⟨b, 0, none⟩))
    (h : K (.tuple #[]) (H.upd b ⟨true, 2, [.pointer (some ⟨b, 0, none⟩), v]⟩)) : InvW Tryz.prog 173 #[.pointer (some ⟨b, 0, none⟩)] H K := by
  obtain ⟨j, hj, hj0⟩ := info_builder
  rcases had with rfl | rfl
  · have r0 : H.read ⟨b, 0, none⟩ 1 = some [.pointer none] := read_cell hb rfl
    have hw := write_cell (o := 0) (v := .pointer (some ⟨b, 0, none⟩)) hb (by simp) (by simp)
    have r1 : (H.upd b ⟨true, 2, [.pointer (some ⟨b, 0, none⟩), v]⟩).read ⟨b, 0, none⟩ 1 = some [.pointer (some ⟨b, 0, none⟩)] := read_cell (upd_get _ _) rfl
    (refine invW_of_pw Tryz.func173 rfl rfl (by decide +kernel) (by simp [Tryz.f173]) ?_); simp -dsimp -failIfUnchanged (maxSteps := 2000000) (disch := omega) only [VA, if_true_, if_false_, reduceIte, Nat.reduceEqDiff, Nat.reduceAdd, Nat.reduceMul, Nat.reduceSub, Int.reduceToNat, Int.reduceAdd, Int.reduceNeg, Int.reduceSub, Int.reduceMul, Int.reduceBEq, Int.reduceBNe, Int.reduceLT, Int.reduceLE, Int.reduceEq, beq_self_eq_true, Int.reducePow, Nat.reducePow, Int.reduceDiv, Nat.reduceLeDiff, reduceCtorEq, Tryz.f173, Tryz.results173, bC350, r0, Option.isNone_none, Option.isNone_some]
    refine to_unsafe Tryz.underlying223 Tryz.underlying303 hj hj0 hp (by decide) ?_
    simp -dsimp -failIfUnchanged (maxSteps := 2000000) (disch := omega) only [VA, if_true_, if_false_, reduceIte, Nat.reduceEqDiff, Nat.reduceAdd, Nat.reduceMul, Nat.reduceSub, Int.reduceToNat, Int.reduceAdd, Int.reduceNeg, Int.reduceSub, Int.reduceMul, Int.reduceBEq, Int.reduceBNe, Int.reduceLT, Int.reduceLE, Int.reduceEq, beq_self_eq_true, Int.reducePow, Nat.reducePow, Int.reduceDiv, Nat.reduceLeDiff, reduceCtorEq, Tryz.f173, Tryz.results173, bC350]
    refine noEscape_W ?_
    simp -dsimp -failIfUnchanged (maxSteps := 2000000) (disch := omega) only [VA, if_true_, if_false_, reduceIte, Nat.reduceEqDiff, Nat.reduceAdd, Nat.reduceMul, Nat.reduceSub, Int.reduceToNat, Int.reduceAdd, Int.reduceNeg, Int.reduceSub, Int.reduceMul, Int.reduceBEq, Int.reduceBNe, Int.reduceLT, Int.reduceLE, Int.reduceEq, beq_self_eq_true, Int.reducePow, Nat.reducePow, Int.reduceDiv, Nat.reduceLeDiff, reduceCtorEq, Tryz.f173, Tryz.results173, bC350]
    refine from_unsafe Tryz.underlying303 Tryz.underlying223 hj hp lies_builder ?_
    simp -dsimp -failIfUnchanged (maxSteps := 2000000) (disch := omega) only [VA, if_true_, if_false_, reduceIte, Nat.reduceEqDiff, Nat.reduceAdd, Nat.reduceMul, Nat.reduceSub, Int.reduceToNat, Int.reduceAdd, Int.reduceNeg, Int.reduceSub, Int.reduceMul, Int.reduceBEq, Int.reduceBNe, Int.reduceLT, Int.reduceLE, Int.reduceEq, beq_self_eq_true, Int.reducePow, Nat.reducePow, Int.reduceDiv, Nat.reduceLeDiff, reduceCtorEq, Tryz.f173, Tryz.results173, bC350, hw, List.set, r1]
    exact h
  · have r0 : H.read ⟨b, 0, none⟩ 1 = some [.pointer (some ⟨b, 0, none⟩)] := read_cell hb rfl
    rw [upd_id hb] at h
    (refine invW_of_pw Tryz.func173 rfl rfl (by decide +kernel) (by simp [Tryz.f173]) ?_); simp -dsimp -failIfUnchanged (maxSteps := 2000000) (disch := omega) only [VA, if_true_, if_false_, reduceIte, Nat.reduceEqDiff, Nat.reduceAdd, Nat.reduceMul, Nat.reduceSub, Int.reduceToNat, Int.reduceAdd, Int.reduceNeg, Int.reduceSub, Int.reduceMul, Int.reduceBEq, Int.reduceBNe, Int.reduceLT, Int.reduceLE, Int.reduceEq, beq_self_eq_true, Int.reducePow, Nat.reducePow, Int.reduceDiv, Nat.reduceLeDiff, reduceCtorEq, Tryz.f173, Tryz.results173, bC350, r0, Option.isNone_none, Option.isNone_some]
    refine semW_neqP (a := ⟨b, 0, none⟩) rfl rfl Tryz.underlying223 hj ?_
    simp -dsimp -failIfUnchanged (maxSteps := 2000000) (disch := omega) only [VA, if_true_, if_false_, reduceIte, Nat.reduceEqDiff, Nat.reduceAdd, Nat.reduceMul, Nat.reduceSub, Int.reduceToNat, Int.reduceAdd, Int.reduceNeg, Int.reduceSub, Int.reduceMul, Int.reduceBEq, Int.reduceBNe, Int.reduceLT, Int.reduceLE, Int.reduceEq, beq_self_eq_true, Int.reducePow, Nat.reducePow, Int.reduceDiv, Nat.reduceLeDiff, reduceCtorEq, Tryz.f173, Tryz.results173, bC350]
    exact h
theorem info_byte : ∃ i, Tryz.prog.info? 5 = some i ∧ i.zero = some (.int .u8 0) ∧ i.size = 1 ∧ i.bytes = 1 := by
  have h : (Tryz.prog.info? 5).map (fun i => (i.zero, i.size, i.bytes)) = some (some (.int .u8 0), 1, 1) := by kernel_rfl
  cases hi : Tryz.prog.info? 5 with
  | none => rw [hi] at h; cases h
  | some j => rw [hi] at h; simp only [Option.map_some, Option.some.injEq, Prod.mk.injEq] at h; exact ⟨j, rfl, h.1, h.2.1, h.2.2⟩
theorem cells_byte : Tryz.prog.cellsOf 5 = 1 := by kernel_rfl
/-- A builder in block b, over what else is known. -/
abbrev BldAt (b : Nat) (H0 : Mem) (l : List UInt8) (H : Mem) : Prop := Bld 5 225 b H0 l H
theorem writeString_W {b : Nat} {H0 : Mem} {l s : List UInt8} (hB : BldAt b H0 l H) (hl : l.length + s.length ≤ 140737488355328)
    (h : ∀ H', BldAt b H0 (l ++ s) H' → K (.tuple #[.int .i64 s.length, .nilIface]) H') : InvW Tryz.prog 118 #[.pointer (some ⟨b, 0, none⟩), .string (bs s)] H K := by
  obtain ⟨ad, v, had, hbuf⟩ := hB
  obtain ⟨i, hi, hz, hs1, hby⟩ := info_byte
  have hb0 : ((H0.upd b ⟨true, 2, [ad, v]⟩).mark b (225, 2)) b = some ⟨true, 2, [ad, v]⟩ := upd_get _ _
  have hsz := bs_size s
  (refine invW_of_pw Tryz.func118 rfl rfl (by decide +kernel) (by simp [Tryz.f118]) ?_); simp -dsimp -failIfUnchanged (maxSteps := 2000000) (disch := omega) only [VA, if_true_, if_false_, reduceIte, Nat.reduceEqDiff, Nat.reduceAdd, Nat.reduceMul, Nat.reduceSub, Int.reduceToNat, Int.reduceAdd, Int.reduceNeg, Int.reduceSub, Int.reduceMul, Int.reduceBEq, Int.reduceBNe, Int.reduceLT, Int.reduceLE, Int.reduceEq, beq_self_eq_true, Int.reducePow, Nat.reducePow, Int.reduceDiv, Nat.reduceLeDiff, reduceCtorEq, Tryz.f118, Tryz.results118, bC351]
  refine copyCheck_W (hbuf.at hb0) (hbuf.atP mark_p) had ?_
  have hbuf1 := hbuf.reup hb0 ⟨true, 2, [.pointer (some ⟨b, 0, none⟩), v]⟩
  have e1 : ((H0.upd b ⟨true, 2, [ad, v]⟩).mark b (225, 2)).upd b ⟨true, 2, [.pointer (some ⟨b, 0, none⟩), v]⟩ = (H0.upd b ⟨true, 2, [.pointer (some ⟨b, 0, none⟩), v]⟩).mark b (225, 2) := by
    show ((H0.upd b _).upd b _).mark b _ = _
    rw [upd_same]
  rw [e1] at hbuf1
  generalize H.upd b ⟨true, 2, [.pointer (some ⟨b, 0, none⟩), v]⟩ = H1 at hbuf1 ⊢
  have hb1 : ((H0.upd b ⟨true, 2, [.pointer (some ⟨b, 0, none⟩), v]⟩).mark b (225, 2)) b = some ⟨true, 2, [.pointer (some ⟨b, 0, none⟩), v]⟩ := upd_get _ _
  have r1 : H1.read ⟨b, 1, none⟩ 1 = some [v] := read_cell (hbuf1.at hb1) rfl
  simp -dsimp -failIfUnchanged (maxSteps := 2000000) (disch := omega) only [VA, if_true_, if_false_, reduceIte, Nat.reduceEqDiff, Nat.reduceAdd, Nat.reduceMul, Nat.reduceSub, Int.reduceToNat, Int.reduceAdd, Int.reduceNeg, Int.reduceSub, Int.reduceMul, Int.reduceBEq, Int.reduceBNe, Int.reduceLT, Int.reduceLE, Int.reduceEq, beq_self_eq_true, Int.reducePow, Nat.reducePow, Int.reduceDiv, Nat.reduceLeDiff, reduceCtorEq, Tryz.f118, Tryz.results118, bC351, r1]
  refine semW_append ?_
  simp -dsimp -failIfUnchanged (maxSteps := 2000000) (disch := omega) only [VA, if_true_, if_false_, reduceIte, Nat.reduceEqDiff, Nat.reduceAdd, Nat.reduceMul, Nat.reduceSub, Int.reduceToNat, Int.reduceAdd, Int.reduceNeg, Int.reduceSub, Int.reduceMul, Int.reduceBEq, Int.reduceBNe, Int.reduceLT, Int.reduceLE, Int.reduceEq, beq_self_eq_true, Int.reducePow, Nat.reducePow, Int.reduceDiv, Nat.reduceLeDiff, reduceCtorEq, Tryz.f118, Tryz.results118, bC351]
  refine append_buf (l := s) Tryz.underlying183 Tryz.underlying9 hi hz hs1 hby hbuf1 (by rw [byC_length]; exact hl) fun v' H2 hbuf2 => ?_
  obtain ⟨ab, nb, cb, rfl⟩ := hbuf2.slice
  have hb2 := hbuf2.at hb1
  have hw := write_cell (o := 1) (v := .slice ab nb cb) hb2 (by simp) (by simp)
  simp -dsimp -failIfUnchanged (maxSteps := 2000000) (disch := omega) only [VA, if_true_, if_false_, reduceIte, Nat.reduceEqDiff, Nat.reduceAdd, Nat.reduceMul, Nat.reduceSub, Int.reduceToNat, Int.reduceAdd, Int.reduceNeg, Int.reduceSub, Int.reduceMul, Int.reduceBEq, Int.reduceBNe, Int.reduceLT, Int.reduceLE, Int.reduceEq, beq_self_eq_true, Int.reducePow, Nat.reducePow, Int.reduceDiv, Nat.reduceLeDiff, reduceCtorEq, Tryz.f118, Tryz.results118, bC351, hw, List.set]
  refine h _ ⟨.pointer (some ⟨b, 0, none⟩), .slice ab nb cb, .inr rfl, ?_⟩
  have hbuf3 := hbuf2.reup hb1 ⟨true, 2, [.pointer (some ⟨b, 0, none⟩), .slice ab nb cb]⟩
  have e2 : ((H0.upd b ⟨true, 2, [.pointer (some ⟨b, 0, none⟩), v]⟩).mark b (225, 2)).upd b ⟨true, 2, [.pointer (some ⟨b, 0, none⟩), .slice ab nb cb]⟩ = (H0.upd b ⟨true, 2, [.pointer (some ⟨b, 0, none⟩), .slice ab nb cb]⟩).mark b (225, 2) := by
    show ((H0.upd b _).upd b _).mark b _ = _
    rw [upd_same]
  rw [e2] at hbuf3
  rw [byC_append]
  exact hbuf3
theorem underlying_pb : Tryz.prog.underlying 280 = some (.pointer 5) := by kernel_rfl
theorem string_W {b : Nat} {H0 : Mem} {l : List UInt8} (hb : H0 b = none) (hp : H0.p b = none) (hB : BldAt b H0 l H) (hl : l.length ≤ 9223372036854775807)
    (h : K (.string (bs l)) H0) : InvW Tryz.prog 119 #[.pointer (some ⟨b, 0, none⟩)] H K := by
  obtain ⟨ad, v, had, hbuf⟩ := hB
  have hb0 : ((H0.upd b ⟨true, 2, [ad, v]⟩).mark b (225, 2)) b = some ⟨true, 2, [ad, v]⟩ := upd_get _ _
  have r1 : H.read ⟨b, 1, none⟩ 1 = some [v] := read_cell (hbuf.at hb0) rfl
  have hle : H0.le ((H0.upd b ⟨true, 2, [ad, v]⟩).mark b (225, 2)) := Mem.le_mark (Mem.le_upd hb _) hp _
  refine InvW.weak ?_
  rcases hbuf with ⟨rfl, h2, rfl⟩ | ⟨g, cap, hg, hgp, rfl, h1, h2, rfl⟩
  · have hl0 : l = [] := by cases l with | nil => rfl | cons x q => simp [byC] at h2
    subst hl0
    (refine invW_of_pw Tryz.func119 rfl rfl (by decide +kernel) (by simp [Tryz.f119]) ?_); simp -dsimp -failIfUnchanged (maxSteps := 2000000) (disch := omega) only [VA, if_true_, if_false_, reduceIte, Nat.reduceEqDiff, Nat.reduceAdd, Nat.reduceMul, Nat.reduceSub, Int.reduceToNat, Int.reduceAdd, Int.reduceNeg, Int.reduceSub, Int.reduceMul, Int.reduceBEq, Int.reduceBNe, Int.reduceLT, Int.reduceLE, Int.reduceEq, beq_self_eq_true, Int.reducePow, Nat.reducePow, Int.reduceDiv, Nat.reduceLeDiff, reduceCtorEq, Tryz.f119, Tryz.results119, bC352]
    refine draw_qtail 10 (by decide +kernel) (by decide +kernel) (by decide +kernel) ?_
    simp -dsimp -failIfUnchanged (maxSteps := 2000000) (disch := omega) only [VA, if_true_, if_false_, reduceIte, Nat.reduceEqDiff, Nat.reduceAdd, Nat.reduceMul, Nat.reduceSub, Int.reduceToNat, Int.reduceAdd, Int.reduceNeg, Int.reduceSub, Int.reduceMul, Int.reduceBEq, Int.reduceBNe, Int.reduceLT, Int.reduceLE, Int.reduceEq, beq_self_eq_true, Int.reducePow, Nat.reducePow, Int.reduceDiv, Nat.reduceLeDiff, reduceCtorEq, Tryz.f119, Tryz.results119, bC352, pwQ, pwQ.qOpW, qV, r1, sdata_nil]
    refine semW_ustring0 (a := none) rfl rfl ?_
    simp -dsimp -failIfUnchanged (maxSteps := 2000000) (disch := omega) only [VA, if_true_, if_false_, reduceIte, Nat.reduceEqDiff, Nat.reduceAdd, Nat.reduceMul, Nat.reduceSub, Int.reduceToNat, Int.reduceAdd, Int.reduceNeg, Int.reduceSub, Int.reduceMul, Int.reduceBEq, Int.reduceBNe, Int.reduceLT, Int.reduceLE, Int.reduceEq, beq_self_eq_true, Int.reducePow, Nat.reducePow, Int.reduceDiv, Nat.reduceLeDiff, reduceCtorEq, Tryz.f119, Tryz.results119, bC352]
    exact ⟨H0, hle, h⟩
  · cases cap with
    | zero => exact absurd rfl h2
    | succ cap =>
    simp only [byC_length] at r1 h1 ⊢
    (refine invW_of_pw Tryz.func119 rfl rfl (by decide +kernel) (by simp [Tryz.f119]) ?_); simp -dsimp -failIfUnchanged (maxSteps := 2000000) (disch := omega) only [VA, if_true_, if_false_, reduceIte, Nat.reduceEqDiff, Nat.reduceAdd, Nat.reduceMul, Nat.reduceSub, Int.reduceToNat, Int.reduceAdd, Int.reduceNeg, Int.reduceSub, Int.reduceMul, Int.reduceBEq, Int.reduceBNe, Int.reduceLT, Int.reduceLE, Int.reduceEq, beq_self_eq_true, Int.reducePow, Nat.reducePow, Int.reduceDiv, Nat.reduceLeDiff, reduceCtorEq, Tryz.f119, Tryz.results119, bC352]
    refine draw_qtail 10 (by decide +kernel) (by decide +kernel) (by decide +kernel) ?_
    simp -dsimp -failIfUnchanged (maxSteps := 2000000) (disch := omega) only [VA, if_true_, if_false_, reduceIte, Nat.reduceEqDiff, Nat.reduceAdd, Nat.reduceMul, Nat.reduceSub, Int.reduceToNat, Int.reduceAdd, Int.reduceNeg, Int.reduceSub, Int.reduceMul, Int.reduceBEq, Int.reduceBNe, Int.reduceLT, Int.reduceLE, Int.reduceEq, beq_self_eq_true, Int.reducePow, Nat.reducePow, Int.reduceDiv, Nat.reduceLeDiff, reduceCtorEq, Tryz.f119, Tryz.results119, bC352, pwQ, pwQ.qOpW, qV, r1, sdata_some]
    by_cases hl0 : l = []
    · subst hl0
      refine semW_ustring0 (a := some ⟨g, 0, none⟩) rfl rfl ?_
      simp -dsimp -failIfUnchanged (maxSteps := 2000000) (disch := omega) only [VA, if_true_, if_false_, reduceIte, Nat.reduceEqDiff, Nat.reduceAdd, Nat.reduceMul, Nat.reduceSub, Int.reduceToNat, Int.reduceAdd, Int.reduceNeg, Int.reduceSub, Int.reduceMul, Int.reduceBEq, Int.reduceBNe, Int.reduceLT, Int.reduceLE, Int.reduceEq, beq_self_eq_true, Int.reducePow, Nat.reducePow, Int.reduceDiv, Nat.reduceLeDiff, reduceCtorEq, Tryz.f119, Tryz.results119, bC352]
      exact ⟨H0, Mem.le_mark (Mem.le_trans hle (Mem.le_upd hg _)) hgp _, h⟩
    · refine semW_ustring (l := l) (gb := g) (cap := cap + 1) rfl rfl underlying_pb cells_byte hl0 hl hg hgp h1 ?_ ?_
      · simp only [byC_length]
      simp -dsimp -failIfUnchanged (maxSteps := 2000000) (disch := omega) only [VA, if_true_, if_false_, reduceIte, Nat.reduceEqDiff, Nat.reduceAdd, Nat.reduceMul, Nat.reduceSub, Int.reduceToNat, Int.reduceAdd, Int.reduceNeg, Int.reduceSub, Int.reduceMul, Int.reduceBEq, Int.reduceBNe, Int.reduceLT, Int.reduceLE, Int.reduceEq, beq_self_eq_true, Int.reducePow, Nat.reducePow, Int.reduceDiv, Nat.reduceLeDiff, reduceCtorEq, Tryz.f119, Tryz.results119, bC352]
      exact ⟨H0, hle, h⟩
end Go.Proofs.YtgkolnknobgcmaaGreat
end
section
namespace Go.Proofs.YtgkolnknobgcmaaGreat
open Go Go.Proofs.YtgkolnknobgcmaaGreatV Go.Shelf
set_option maxRecDepth 20000
set_option linter.unusedSimpArgs false
set_option linter.unusedVariables false
set_option maxHeartbeats 4000000
theorem bC360 : type_of% @Tryz.underlying3 ∧ type_of% @ty3 ∧ type_of% @zero3 ∧ type_of% @Tryz.underlying9 ∧ type_of% @ty9 ∧ type_of% @zero9 ∧ type_of% @Tryz.underlying36 ∧ type_of% @ty36 ∧ type_of% @zero36 ∧ type_of% @Tryz.underlying48 ∧ type_of% @einf48 ∧ type_of% @elt48 ∧ type_of% @ty48 ∧ type_of% @zero48 ∧ type_of% @Tryz.underlying225 ∧ type_of% @elt225 ∧ type_of% @fld225_0 ∧ type_of% @fld225_1 ∧ type_of% @flds225 ∧ type_of% @ty225 ∧ type_of% @zero225 ∧ type_of% @Tryz.ntmps70 := ⟨@Tryz.underlying3, @ty3, @zero3, @Tryz.underlying9, @ty9, @zero9, @Tryz.underlying36, @ty36, @zero36, @Tryz.underlying48, @einf48, @elt48, @ty48, @zero48, @Tryz.underlying225, @elt225, @fld225_0, @fld225_1, @flds225, @ty225, @zero225, @Tryz.ntmps70⟩
theorem bC361 : type_of% @Tryz.underlying3 ∧ type_of% @ty3 ∧ type_of% @zero3 ∧ type_of% @Tryz.underlying36 ∧ type_of% @ty36 ∧ type_of% @zero36 ∧ type_of% @Tryz.underlying48 ∧ type_of% @einf48 ∧ type_of% @elt48 ∧ type_of% @ty48 ∧ type_of% @zero48 ∧ type_of% @Tryz.underlying60 ∧ type_of% @einf60 ∧ type_of% @elt60 ∧ type_of% @ty60 ∧ type_of% @zero60 ∧ type_of% @Tryz.underlying64 ∧ type_of% @elt64 ∧ type_of% @fld64_0 ∧ type_of% @fld64_1 ∧ type_of% @fld64_2 ∧ type_of% @fld64_3 ∧ type_of% @fld64_4 ∧ type_of% @fld64_5 ∧ type_of% @fld64_6 ∧ type_of% @fld64_7 ∧ type_of% @flds64 ∧ type_of% @ty64 ∧ type_of% @zero64 ∧ type_of% @Tryz.ntmps27 := ⟨@Tryz.underlying3, @ty3, @zero3, @Tryz.underlying36, @ty36, @zero36, @Tryz.underlying48, @einf48, @elt48, @ty48, @zero48, @Tryz.underlying60, @einf60, @elt60, @ty60, @zero60, @Tryz.underlying64, @elt64, @fld64_0, @fld64_1, @fld64_2, @fld64_3, @fld64_4, @fld64_5, @fld64_6, @fld64_7, @flds64, @ty64, @zero64, @Tryz.ntmps27⟩
variable {H : Mem} {K : Value → Mem → Prop}

def wtF (c : UInt8) : Nat := if c = 117 then 34 else if c = 114 then 13 else if c = 109 then 25 else if c = 115 then 1 else if c = 112 then 1 else if c = 99 then 1 else 6
theorem fieldB_wt {z : Stz} (h : Fine z) {c : UInt8} (hc : c ∈ hasK z.k) : (fieldB z c).length ≤ wtF c := by
  unfold fieldB wtF
  split
  · rename_i e; subst e; have := h.u hc; simp [sayL]; omega
  split
  · have := h.r; simp [sayL]; omega
  split
  · have := h.n; simp [sayL]; omega
  repeat' split
  all_goals simp [be_length]
theorem flat_wt {ff : UInt8 → List UInt8} : ∀ {l : List UInt8}, (∀ c ∈ l, (ff c).length ≤ wtF c) → (l.flatMap ff).length ≤ (l.map wtF).sum
  | [], _ => by simp
  | c :: l, h => by
    have h1 := h c (by simp)
    have h2 := flat_wt (ff := ff) (l := l) (fun x hx => h x (by simp [hx]))
    simp only [List.flatMap_cons, List.length_append, List.map_cons, List.sum_cons]; omega
theorem ite_wt {c : Prop} [Decidable c] {a b : List UInt8} (ha : (a.map wtF).sum ≤ 127) (hb : (b.map wtF).sum ≤ 127) : ((if c then a else b).map wtF).sum ≤ 127 := by split <;> assumption
theorem hasK_wt (k : Int) : ((hasK k).map wtF).sum ≤ 127 := by
  unfold hasK
  repeat (refine ite_wt (by decide) ?_)
  decide
theorem putL_fits {z : Stz} (h : errS z = 0) : (putL z).length ≤ 128 ∧ putL z ≠ [] := by
  have hf := fine_of h
  have h1 := flat_wt (ff := fieldB z) (l := hasK z.k) (fun c hc => fieldB_wt hf hc)
  have h2 := hasK_wt z.k
  refine ⟨?_, by simp [putL]⟩
  simp only [putL, List.length_cons]; omega
/-- A text's frame. -/
def fr (s : List UInt8) : List UInt8 := be 2 s.length ++ s
theorem fr_length (s : List UInt8) : (fr s).length = 2 + s.length := by simp [fr, be_length]
theorem frs_len : ∀ (l : List (List UInt8)), (∀ s ∈ l, s ≠ [] ∧ s.length ≤ 128) → (l.flatMap fr).length ≤ 130 * l.length
  | [], _ => by simp
  | s :: l, h => by
    have h1 := (h s (by simp)).2
    have h2 := frs_len l (fun x hx => h x (by simp [hx]))
    have h3 := fr_length s
    simp only [List.flatMap_cons, List.length_append, List.length_cons]; omega
def textC (s : List UInt8) : List Value := [.string (bs s)]
theorem joinF_W {v : Value} {l : List (List UInt8)} (hv : SrcV 1 H v l.length (l.flatMap textC)) (hok : ∀ s ∈ l, s ≠ [] ∧ s.length ≤ 128) (hn : l.length ≤ 1000000)
    (h : K (.tuple #[.string (bs (l.flatMap fr)), .int .i64 0]) H) : InvW Tryz.prog 70 #[v] H K := by
  obtain ⟨a0, c, rfl⟩ := hv.slice
  refine InvW.weak ?_
  refine invW_of_defers Tryz.func70 rfl (by decide +kernel) (by simp [Tryz.f70]) ?_
  simp -dsimp -failIfUnchanged (maxSteps := 2000000) (disch := omega) only [VA, if_true_, if_false_, reduceIte, Nat.reduceEqDiff, Nat.reduceAdd, Nat.reduceMul, Nat.reduceSub, Int.reduceToNat, Int.reduceAdd, Int.reduceNeg, Int.reduceSub, Int.reduceMul, Int.reduceBEq, Int.reduceBNe, Int.reduceLT, Int.reduceLE, Int.reduceEq, beq_self_eq_true, Int.reducePow, Nat.reducePow, Int.reduceDiv, Nat.reduceLeDiff, reduceCtorEq, Tryz.f70, Tryz.results70, bC360]
  refine codeW_seq (codeW_pw (by decide +kernel) ?_)
  simp -dsimp -failIfUnchanged (maxSteps := 2000000) (disch := omega) only [VA, if_true_, if_false_, reduceIte, Nat.reduceEqDiff, Nat.reduceAdd, Nat.reduceMul, Nat.reduceSub, Int.reduceToNat, Int.reduceAdd, Int.reduceNeg, Int.reduceSub, Int.reduceMul, Int.reduceBEq, Int.reduceBNe, Int.reduceLT, Int.reduceLE, Int.reduceEq, beq_self_eq_true, Int.reducePow, Nat.reducePow, Int.reduceDiv, Nat.reduceLeDiff, reduceCtorEq, Tryz.f70, Tryz.results70, bC360]
  refine codeW_seq (alloc_mark zero225 (by decide) fun b hb hp => ?_)
  refine codeW_pw (by decide +kernel) ?_
  simp -dsimp -failIfUnchanged (maxSteps := 2000000) (disch := omega) only [VA, if_true_, if_false_, reduceIte, Nat.reduceEqDiff, Nat.reduceAdd, Nat.reduceMul, Nat.reduceSub, Int.reduceToNat, Int.reduceAdd, Int.reduceNeg, Int.reduceSub, Int.reduceMul, Int.reduceBEq, Int.reduceBNe, Int.reduceLT, Int.reduceLE, Int.reduceEq, beq_self_eq_true, Int.reducePow, Nat.reducePow, Int.reduceDiv, Nat.reduceLeDiff, reduceCtorEq, Tryz.f70, Tryz.results70, bC360, thenQ]
  have hle0 : H.le ((H.upd b ⟨true, 2, [.pointer none, .slice none 0 0]⟩).mark b (225, 2)) := Mem.le_mark (Mem.le_upd hb _) hp _
  refine loop_enter (loop_ind ?_ (fun (i : Nat) e1 H1 => e1.ds = [] ∧ e1 4 = .pointer (some ⟨b, 0, none⟩) ∧ e1 9 = .slice a0 l.length c ∧ e1 10 = .int .i64 l.length ∧ e1 11 = .int .i64 i ∧ i ≤ l.length ∧
      BldAt b H ((l.take i).flatMap fr) H1) (fun i => l.length - i) ?_ 0 _ _ ?_)
  · decide +kernel
  rotate_left
  · simp -dsimp -failIfUnchanged (maxSteps := 2000000) (disch := omega) only [VA, if_true_, if_false_, reduceIte, Nat.reduceEqDiff, Nat.reduceAdd, Nat.reduceMul, Nat.reduceSub, Int.reduceToNat, Int.reduceAdd, Int.reduceNeg, Int.reduceSub, Int.reduceMul, Int.reduceBEq, Int.reduceBNe, Int.reduceLT, Int.reduceLE, Int.reduceEq, beq_self_eq_true, Int.reducePow, Nat.reducePow, Int.reduceDiv, Nat.reduceLeDiff, reduceCtorEq, Tryz.f70, Tryz.results70, bC360]
    refine ⟨trivial, trivial, ?_, ?_, ?_, ?_, .pointer none, .slice none 0 0, .inl rfl, .inl ⟨rfl, rfl, rfl⟩⟩ <;> first | trivial | rfl | omega
  rintro i e1 H1 ⟨d0, d1, d2, d3, d4, hi, hbd⟩ ih
  have hH1 : H.le H1 := by
    obtain ⟨ad, w, _, hbuf⟩ := hbd
    exact Mem.le_trans (Mem.le_mark (Mem.le_upd hb _) hp _) hbuf.le
  by_cases hlt : i < l.length
  · have q1 : decide ((i : Int) < l.length) = true := decide_eq_true (by omega)
    obtain ⟨s, hs⟩ : ∃ s, l[i]? = some s := ⟨l[i], by simp⟩
    have hsm := List.mem_of_getElem? hs
    obtain ⟨b2, o, c', hab, hrd⟩ := SrcV.block (f := textC) (hv.le hH1) (by omega) (by decide)
    cases hab
    have r1 := flat_read (f := textC) (n := 1) (fun _ => rfl) hrd hs (k := 0) (m := 1) (ws := [.string (bs s)]) (by decide) rfl
    rw [Nat.add_zero] at r1
    have hlen := frs_len (l.take i) (fun x hx => hok x (List.mem_of_mem_take hx))
    have hfl := fr_length s
    have hsl := (hok s hsm).2
    have htl : (l.take i).length = i := by simp; omega
    simp -dsimp -failIfUnchanged (maxSteps := 2000000) (disch := omega) only [VA, if_true_, if_false_, reduceIte, Nat.reduceEqDiff, Nat.reduceAdd, Nat.reduceMul, Nat.reduceSub, Int.reduceToNat, Int.reduceAdd, Int.reduceNeg, Int.reduceSub, Int.reduceMul, Int.reduceBEq, Int.reduceBNe, Int.reduceLT, Int.reduceLE, Int.reduceEq, beq_self_eq_true, Int.reducePow, Nat.reducePow, Int.reduceDiv, Nat.reduceLeDiff, reduceCtorEq, Tryz.f70, Tryz.results70, bC360, d0, d1, d2, d3, d4, q1, r1, Int.toNat_natCast]
    refine frame_ok (hok s hsm).1 (hok s hsm).2 ?_
    simp -dsimp -failIfUnchanged (maxSteps := 2000000) (disch := omega) only [VA, if_true_, if_false_, reduceIte, Nat.reduceEqDiff, Nat.reduceAdd, Nat.reduceMul, Nat.reduceSub, Int.reduceToNat, Int.reduceAdd, Int.reduceNeg, Int.reduceSub, Int.reduceMul, Int.reduceBEq, Int.reduceBNe, Int.reduceLT, Int.reduceLE, Int.reduceEq, beq_self_eq_true, Int.reducePow, Nat.reducePow, Int.reduceDiv, Nat.reduceLeDiff, reduceCtorEq, Tryz.f70, Tryz.results70, bC360, d0, d1, d2, d3, d4]
    refine writeString_W hbd (s := fr s) (by omega) fun H2 hbd2 => ?_
    simp -dsimp -failIfUnchanged (maxSteps := 2000000) (disch := omega) only [VA, if_true_, if_false_, reduceIte, Nat.reduceEqDiff, Nat.reduceAdd, Nat.reduceMul, Nat.reduceSub, Int.reduceToNat, Int.reduceAdd, Int.reduceNeg, Int.reduceSub, Int.reduceMul, Int.reduceBEq, Int.reduceBNe, Int.reduceLT, Int.reduceLE, Int.reduceEq, beq_self_eq_true, Int.reducePow, Nat.reducePow, Int.reduceDiv, Nat.reduceLeDiff, reduceCtorEq, Tryz.f70, Tryz.results70, bC360, d0, d1, d2, d3, d4]
    refine ih (i + 1) _ _ ?_ (by omega)
    simp -dsimp -failIfUnchanged (maxSteps := 2000000) (disch := omega) only [VA, if_true_, if_false_, reduceIte, Nat.reduceEqDiff, Nat.reduceAdd, Nat.reduceMul, Nat.reduceSub, Int.reduceToNat, Int.reduceAdd, Int.reduceNeg, Int.reduceSub, Int.reduceMul, Int.reduceBEq, Int.reduceBNe, Int.reduceLT, Int.reduceLE, Int.reduceEq, beq_self_eq_true, Int.reducePow, Nat.reducePow, Int.reduceDiv, Nat.reduceLeDiff, reduceCtorEq, Tryz.f70, Tryz.results70, bC360, d0, d1, d2, d3, d4]
    refine ⟨trivial, trivial, trivial, trivial, by simp, by omega, ?_⟩
    rw [List.take_add_one, hs]
    simpa using hbd2
  · have q1 : decide ((i : Int) < l.length) = false := decide_eq_false (by omega)
    obtain rfl : i = l.length := by omega
    rw [List.take_length] at hbd
    have hlen := frs_len l hok
    simp -dsimp -failIfUnchanged (maxSteps := 2000000) (disch := omega) only [VA, if_true_, if_false_, reduceIte, Nat.reduceEqDiff, Nat.reduceAdd, Nat.reduceMul, Nat.reduceSub, Int.reduceToNat, Int.reduceAdd, Int.reduceNeg, Int.reduceSub, Int.reduceMul, Int.reduceBEq, Int.reduceBNe, Int.reduceLT, Int.reduceLE, Int.reduceEq, beq_self_eq_true, Int.reducePow, Nat.reducePow, Int.reduceDiv, Nat.reduceLeDiff, reduceCtorEq, Tryz.f70, Tryz.results70, bC360, d0, d1, d2, d3, d4, q1]
    refine string_W hb hp hbd (by omega) ?_
    simp -dsimp -failIfUnchanged (maxSteps := 2000000) (disch := omega) only [VA, if_true_, if_false_, reduceIte, Nat.reduceEqDiff, Nat.reduceAdd, Nat.reduceMul, Nat.reduceSub, Int.reduceToNat, Int.reduceAdd, Int.reduceNeg, Int.reduceSub, Int.reduceMul, Int.reduceBEq, Int.reduceBNe, Int.reduceLT, Int.reduceLE, Int.reduceEq, beq_self_eq_true, Int.reducePow, Nat.reducePow, Int.reduceDiv, Nat.reduceLeDiff, reduceCtorEq, Tryz.f70, Tryz.results70, bC360, endL, leaveD, d0]
    exact ⟨H, H.le_refl, h⟩
theorem encode_W {v : Value} {l : List Stz} (hB : Base H) (hv : SrcV 8 H v l.length (l.flatMap Stz.cells)) (hok : ∀ z ∈ l, z.small ∧ errS z = 0) (hn : l.length ≤ 1000000)
    (h : K (.tuple #[.string (bs ((l.map putL).flatMap fr)), .int .i64 0]) H) : InvW Tryz.prog 27 #[v] H K := by
  obtain ⟨a0, c, rfl⟩ := hv.slice
  refine InvW.weak ?_
  (refine invW_of_pw Tryz.func27 rfl rfl (by decide +kernel) (by simp [Tryz.f27]) ?_); simp -dsimp -failIfUnchanged (maxSteps := 2000000) (disch := omega) only [VA, if_true_, if_false_, reduceIte, Nat.reduceEqDiff, Nat.reduceAdd, Nat.reduceMul, Nat.reduceSub, Int.reduceToNat, Int.reduceAdd, Int.reduceNeg, Int.reduceSub, Int.reduceMul, Int.reduceBEq, Int.reduceBNe, Int.reduceLT, Int.reduceLE, Int.reduceEq, beq_self_eq_true, Int.reducePow, Nat.reducePow, Int.reduceDiv, Nat.reduceLeDiff, reduceCtorEq, Tryz.f27, Tryz.results27, bC361]
  refine loop_enter (loop_ind ?_ (fun (i : Nat) e1 H1 => e1.ds = [] ∧ e1 9 = .slice a0 l.length c ∧ e1 10 = .int .i64 l.length ∧ e1 11 = .int .i64 i ∧ i ≤ l.length ∧
      ∃ Hb w, H.le Hb ∧ e1 4 = w ∧ OwnV 1 Hb w i (((l.take i).map putL).flatMap textC) H1) (fun i => l.length - i) ?_ 0 _ _ ?_)
  · decide +kernel
  rotate_left
  · simp -dsimp -failIfUnchanged (maxSteps := 2000000) (disch := omega) only [VA, if_true_, if_false_, reduceIte, Nat.reduceEqDiff, Nat.reduceAdd, Nat.reduceMul, Nat.reduceSub, Int.reduceToNat, Int.reduceAdd, Int.reduceNeg, Int.reduceSub, Int.reduceMul, Int.reduceBEq, Int.reduceBNe, Int.reduceLT, Int.reduceLE, Int.reduceEq, beq_self_eq_true, Int.reducePow, Nat.reducePow, Int.reduceDiv, Nat.reduceLeDiff, reduceCtorEq, Tryz.f27, Tryz.results27, bC361]
    refine ⟨trivial, ?_, ?_, ?_, ?_, _, _, H.le_refl, (by trivial), OwnV.nil⟩ <;> first | trivial | rfl | omega
  rintro i e1 H1 ⟨d0, d1, d2, d3, hi, Hb, w, hle, d4, hov⟩ ih
  have hH1 : H.le H1 := Mem.le_trans hle hov.le
  by_cases hlt : i < l.length
  · have q1 : decide ((i : Int) < l.length) = true := decide_eq_true (by omega)
    obtain ⟨z, hz⟩ : ∃ z, l[i]? = some z := ⟨l[i], by simp⟩
    have hzm := List.mem_of_getElem? hz
    obtain ⟨b2, o, c', hab, hrd⟩ := SrcV.block (f := Stz.cells) (hv.le hH1) (by omega) (by decide)
    cases hab
    have r1 := flat_read (f := Stz.cells) (n := 8) (fun _ => rfl) hrd hz (k := 0) (m := 8) (ws := z.cells) (by decide) rfl
    rw [Nat.add_zero] at r1
    unfold Stz.cells at r1
    simp -dsimp -failIfUnchanged (maxSteps := 2000000) (disch := omega) only [VA, if_true_, if_false_, reduceIte, Nat.reduceEqDiff, Nat.reduceAdd, Nat.reduceMul, Nat.reduceSub, Int.reduceToNat, Int.reduceAdd, Int.reduceNeg, Int.reduceSub, Int.reduceMul, Int.reduceBEq, Int.reduceBNe, Int.reduceLT, Int.reduceLE, Int.reduceEq, beq_self_eq_true, Int.reducePow, Nat.reducePow, Int.reduceDiv, Nat.reduceLeDiff, reduceCtorEq, Tryz.f27, Tryz.results27, bC361, d0, d1, d2, d3, q1, r1, Int.toNat_natCast]
    intro n hn1
    simp -dsimp -failIfUnchanged (maxSteps := 2000000) (disch := omega) only [VA, if_true_, if_false_, reduceIte, Nat.reduceEqDiff, Nat.reduceAdd, Nat.reduceMul, Nat.reduceSub, Int.reduceToNat, Int.reduceAdd, Int.reduceNeg, Int.reduceSub, Int.reduceMul, Int.reduceBEq, Int.reduceBNe, Int.reduceLT, Int.reduceLE, Int.reduceEq, beq_self_eq_true, Int.reducePow, Nat.reducePow, Int.reduceDiv, Nat.reduceLeDiff, reduceCtorEq, Tryz.f27, Tryz.results27, bC361, d0, d1, d2, d3, d4]
    refine put_W (z := z) (hB.le (Mem.le_trans hH1 (Mem.le_upd hn1 _))) (hok z hzm).1 ?_
    rw [(hok z hzm).2]
    simp -dsimp -failIfUnchanged (maxSteps := 2000000) (disch := omega) only [VA, if_true_, if_false_, reduceIte, Nat.reduceEqDiff, Nat.reduceAdd, Nat.reduceMul, Nat.reduceSub, Int.reduceToNat, Int.reduceAdd, Int.reduceNeg, Int.reduceSub, Int.reduceMul, Int.reduceBEq, Int.reduceBNe, Int.reduceLT, Int.reduceLE, Int.reduceEq, beq_self_eq_true, Int.reducePow, Nat.reducePow, Int.reduceDiv, Nat.reduceLeDiff, reduceCtorEq, Tryz.f27, Tryz.results27, bC361, d0, d1, d2, d3, d4]
    refine semW_build ?_
    simp -dsimp -failIfUnchanged (maxSteps := 2000000) (disch := omega) only [VA, if_true_, if_false_, reduceIte, Nat.reduceEqDiff, Nat.reduceAdd, Nat.reduceMul, Nat.reduceSub, Int.reduceToNat, Int.reduceAdd, Int.reduceNeg, Int.reduceSub, Int.reduceMul, Int.reduceBEq, Int.reduceBNe, Int.reduceLT, Int.reduceLE, Int.reduceEq, beq_self_eq_true, Int.reducePow, Nat.reducePow, Int.reduceDiv, Nat.reduceLeDiff, reduceCtorEq, Tryz.f27, Tryz.results27, bC361, d0, d1, d2, d3, d4]
    refine build_W (cs := [.string (bs (putL z))]) einf48 rfl (by decide) ?_ fun y hy => ?_
    · simp -dsimp -failIfUnchanged (maxSteps := 2000000) (disch := omega) only [VA, if_true_, if_false_, reduceIte, Nat.reduceEqDiff, Nat.reduceAdd, Nat.reduceMul, Nat.reduceSub, Int.reduceToNat, Int.reduceAdd, Int.reduceNeg, Int.reduceSub, Int.reduceMul, Int.reduceBEq, Int.reduceBNe, Int.reduceLT, Int.reduceLE, Int.reduceEq, beq_self_eq_true, Int.reducePow, Nat.reducePow, Int.reduceDiv, Nat.reduceLeDiff, reduceCtorEq, Tryz.f27, Tryz.results27, bC361, zerosL]
    simp -dsimp -failIfUnchanged (maxSteps := 2000000) (disch := omega) only [VA, if_true_, if_false_, reduceIte, Nat.reduceEqDiff, Nat.reduceAdd, Nat.reduceMul, Nat.reduceSub, Int.reduceToNat, Int.reduceAdd, Int.reduceNeg, Int.reduceSub, Int.reduceMul, Int.reduceBEq, Int.reduceBNe, Int.reduceLT, Int.reduceLE, Int.reduceEq, beq_self_eq_true, Int.reducePow, Nat.reducePow, Int.reduceDiv, Nat.reduceLeDiff, reduceCtorEq, Tryz.f27, Tryz.results27, bC361, d0, d1, d2, d3, d4]
    refine semW_append ?_
    simp -dsimp -failIfUnchanged (maxSteps := 2000000) (disch := omega) only [VA, if_true_, if_false_, reduceIte, Nat.reduceEqDiff, Nat.reduceAdd, Nat.reduceMul, Nat.reduceSub, Int.reduceToNat, Int.reduceAdd, Int.reduceNeg, Int.reduceSub, Int.reduceMul, Int.reduceBEq, Int.reduceBNe, Int.reduceLT, Int.reduceLE, Int.reduceEq, beq_self_eq_true, Int.reducePow, Nat.reducePow, Int.reduceDiv, Nat.reduceLeDiff, reduceCtorEq, Tryz.f27, Tryz.results27, bC361, d0, d1, d2, d3, d4]
    have hv1 := hov.upd hn1 ⟨true, 8, z.cells⟩
    have hv2 := hv1.upd hy ⟨true, 1, [.string (bs (putL z))]⟩
    have hsrc : SrcV 1 ((H1.upd n ⟨true, 8, z.cells⟩).upd y ⟨true, 1, [.string (bs (putL z))]⟩) (.slice (some ⟨y, 0, none⟩) 1 1) 1 [.string (bs (putL z))] := (OwnV.new (n := 1) (l := 1) (cs := [.string (bs (putL z))]) hy rfl).src
    have hHn : Hb n = none := le_none hov.le hn1
    have hHy : (Hb.upd n ⟨true, 8, z.cells⟩) y = none := le_none hv1.le hy
    refine append_own einf48 (by decide) rfl hv2 hsrc rfl (by omega) (by omega) fun v' H' ho3 => ?_
    simp -dsimp -failIfUnchanged (maxSteps := 2000000) (disch := omega) only [VA, if_true_, if_false_, reduceIte, Nat.reduceEqDiff, Nat.reduceAdd, Nat.reduceMul, Nat.reduceSub, Int.reduceToNat, Int.reduceAdd, Int.reduceNeg, Int.reduceSub, Int.reduceMul, Int.reduceBEq, Int.reduceBNe, Int.reduceLT, Int.reduceLE, Int.reduceEq, beq_self_eq_true, Int.reducePow, Nat.reducePow, Int.reduceDiv, Nat.reduceLeDiff, reduceCtorEq, Tryz.f27, Tryz.results27, bC361, d0, d1, d2, d3, d4]
    refine ih (i + 1) _ _ ?_ (by omega)
    simp -dsimp -failIfUnchanged (maxSteps := 2000000) (disch := omega) only [VA, if_true_, if_false_, reduceIte, Nat.reduceEqDiff, Nat.reduceAdd, Nat.reduceMul, Nat.reduceSub, Int.reduceToNat, Int.reduceAdd, Int.reduceNeg, Int.reduceSub, Int.reduceMul, Int.reduceBEq, Int.reduceBNe, Int.reduceLT, Int.reduceLE, Int.reduceEq, beq_self_eq_true, Int.reducePow, Nat.reducePow, Int.reduceDiv, Nat.reduceLeDiff, reduceCtorEq, Tryz.f27, Tryz.results27, bC361, d0, d1, d2, d3, d4]
    refine ⟨trivial, trivial, trivial, by simp, by omega, _, _, Mem.le_trans hle (Mem.le_upd' (Mem.le_upd hHn ⟨true, 8, z.cells⟩) hHy ⟨true, 1, [.string (bs (putL z))]⟩), (by trivial), ?_⟩
    rw [List.take_add_one, hz]
    simpa [textC] using ho3
  · have q1 : decide ((i : Int) < l.length) = false := decide_eq_false (by omega)
    obtain rfl : i = l.length := by omega
    rw [List.take_length] at hov
    simp -dsimp -failIfUnchanged (maxSteps := 2000000) (disch := omega) only [VA, if_true_, if_false_, reduceIte, Nat.reduceEqDiff, Nat.reduceAdd, Nat.reduceMul, Nat.reduceSub, Int.reduceToNat, Int.reduceAdd, Int.reduceNeg, Int.reduceSub, Int.reduceMul, Int.reduceBEq, Int.reduceBNe, Int.reduceLT, Int.reduceLE, Int.reduceEq, beq_self_eq_true, Int.reducePow, Nat.reducePow, Int.reduceDiv, Nat.reduceLeDiff, reduceCtorEq, Tryz.f27, Tryz.results27, bC361, d0, d1, d2, d3, d4, q1]
    have hov' : SrcV 1 H1 w (l.map putL).length ((l.map putL).flatMap textC) := by rw [List.length_map]; exact hov.src
    refine joinF_W hov' ?_ (by simpa using hn) ?_
    · intro s hs
      obtain ⟨z, hz, rfl⟩ := List.mem_map.1 hs
      exact ⟨(putL_fits (hok z hz).2).2, (putL_fits (hok z hz).2).1⟩
    simp -dsimp -failIfUnchanged (maxSteps := 2000000) (disch := omega) only [VA, if_true_, if_false_, reduceIte, Nat.reduceEqDiff, Nat.reduceAdd, Nat.reduceMul, Nat.reduceSub, Int.reduceToNat, Int.reduceAdd, Int.reduceNeg, Int.reduceSub, Int.reduceMul, Int.reduceBEq, Int.reduceBNe, Int.reduceLT, Int.reduceLE, Int.reduceEq, beq_self_eq_true, Int.reducePow, Nat.reducePow, Int.reduceDiv, Nat.reduceLeDiff, reduceCtorEq, Tryz.f27, Tryz.results27, bC361, d0]
    exact ⟨H, hH1, h⟩
end Go.Proofs.YtgkolnknobgcmaaGreat
end
section
namespace Go.Proofs.YtgkolnknobgcmaaGreat
open Go Go.Proofs.YtgkolnknobgcmaaGreatV
set_option linter.unusedVariables false

def runOps (cs : List Int) (l : List (Nat × Int)) : List Int := l.foldl (fun c x => addAt c x.1 x.2) cs
theorem runOps_append (cs : List Int) (l m : List (Nat × Int)) : runOps cs (l ++ m) = runOps (runOps cs l) m := List.foldl_append
def opsOne (z : Stz) : List (Nat × Int) := (3, sizeF (putOf z)) :: (if kindP z.k = -1 then [] else [((kindP z.k).toNat, 1)])
theorem noteOne_ops (cs : List Int) (z : Stz) : noteOne cs z = runOps cs (opsOne z) := by
  unfold noteOne opsOne runOps
  dsimp only
  split <;> rfl
def opsAct (a : ActD) : List (Nat × Int) :=
  if a.name = [] then (0, 1) :: ((if a.e = 0 then [] else [(1, 1)]) ++ ((2, (a.said.length : Int)) :: (11, (a.ns : Int)) :: a.said.flatMap fun x => opsOne x.2))
  else if addOk a.name a.n = true then [((placeL namesL a.name).toNat, a.n)] else []
theorem foldl_noteOne : ∀ (l : List (Int × Stz)) (cs : List Int), (l.map (·.2)).foldl noteOne cs = runOps cs (l.flatMap fun x => opsOne x.2)
  | [], _ => rfl
  | x :: l, cs => by
    rw [List.map_cons, List.foldl_cons, foldl_noteOne l, noteOne_ops, List.flatMap_cons, runOps_append]
theorem actStep_ops (cs : List Int) (a : ActD) : actStep cs a = runOps cs (opsAct a) := by
  unfold actStep opsAct
  split
  · unfold noteL
    rw [foldl_noteOne]
    split <;> simp [runOps]
  · unfold addP
    split <;> rfl
theorem sizeF_nonneg (l : List UInt8) : 0 ≤ sizeF l := by unfold sizeF; split <;> omega
theorem opsOne_ok {z : Stz} : ∀ x ∈ opsOne z, x.1 < 12 ∧ 0 ≤ x.2 := by
  intro x hx
  unfold opsOne at hx
  rcases List.mem_cons.1 hx with rfl | hx
  · exact ⟨by show 3 < 12; decide, sizeF_nonneg _⟩
  · split at hx
    · cases hx
    · rename_i h
      simp only [List.mem_singleton] at hx; subst hx
      rcases kindP_cases z.k with h' | ⟨j, hj, h'⟩
      · exact absurd h' h
      · exact ⟨by show (kindP z.k).toNat < 12; rw [h']; exact hj, by show (0 : Int) ≤ 1; decide⟩
theorem opsAct_ok {a : ActD} : ∀ x ∈ opsAct a, x.1 < 12 ∧ 0 ≤ x.2 := by
  intro x hx
  unfold opsAct at hx
  split at hx
  · rcases List.mem_cons.1 hx with rfl | hx
    · exact ⟨by decide, by decide⟩
    · rcases List.mem_append.1 hx with hx | hx
      · split at hx
        · cases hx
        · simp only [List.mem_singleton] at hx; subst hx; exact ⟨by decide, by decide⟩
      · rcases List.mem_cons.1 hx with rfl | hx
        · exact ⟨by show 2 < 12; decide, by show (0 : Int) ≤ (a.said.length : Int); omega⟩
        · rcases List.mem_cons.1 hx with rfl | hx
          · exact ⟨by show 11 < 12; decide, by show (0 : Int) ≤ (a.ns : Int); omega⟩
          · obtain ⟨y, _, hy⟩ := List.mem_flatMap.1 hx
            exact opsOne_ok x hy
  · split at hx
    · rename_i h
      simp only [List.mem_singleton] at hx; subst hx
      simp only [addOk, Bool.and_eq_true, decide_eq_true_eq, Bool.not_eq_true', beq_eq_false_iff_ne] at h
      rcases placeL_cases namesL a.name with h' | ⟨j, hj, h', _⟩
      · exact absurd h' h.2
      · exact ⟨by show (placeL namesL a.name).toNat < 12; rw [h']; exact hj, h.1⟩
    · cases hx
def sumAt (j : Nat) : List (Nat × Int) → Int
  | [] => 0
  | x :: l => (if x.1 = j then x.2 else 0) + sumAt j l
theorem sumAt_append (j : Nat) : ∀ l m, sumAt j (l ++ m) = sumAt j l + sumAt j m
  | [], m => by simp [sumAt]
  | x :: l, m => by simp only [List.cons_append, sumAt, sumAt_append j l m]; omega
theorem sumAt_nonneg (j : Nat) : ∀ l : List (Nat × Int), (∀ x ∈ l, x.1 < 12 ∧ 0 ≤ x.2) → 0 ≤ sumAt j l
  | [], _ => by simp [sumAt]
  | x :: l, h => by
    have h1 := (h x (by simp)).2
    have h2 := sumAt_nonneg j l fun y hy => h y (by simp [hy])
    simp only [sumAt]; split <;> omega
/-- Counts, each from 0 to the greatest. -/
def Cts (cs : List Int) : Prop := cs.length = 12 ∧ ∀ c ∈ cs, 0 ≤ c ∧ c ≤ 4611686018427387904
theorem Cts.get {cs : List Int} (h : Cts cs) (i : Nat) (hi : i < 12) : 0 ≤ cs[i]?.getD 0 ∧ cs[i]?.getD 0 ≤ 4611686018427387904 := by
  have hl := h.1
  rw [List.getElem?_eq_getElem (by omega)]
  exact h.2 _ (List.getElem_mem _)
theorem Cts.add {cs : List Int} (h : Cts cs) {i : Nat} (hi : i < 12) {n : Int} (hn : 0 ≤ n) : Cts (addAt cs i n) := by
  refine ⟨by simp [addAt, h.1], fun c hc => ?_⟩
  rcases List.mem_or_eq_of_mem_set hc with hc | rfl
  · exact h.2 _ hc
  · exact sat_b (h.get i hi) hn
theorem addAt_get {cs : List Int} (h : Cts cs) {i j : Nat} (hi : i < 12) (hj : j < 12) {n : Int} (hn : 0 ≤ n) : (addAt cs i n)[j]?.getD 0 = min 4611686018427387904 (cs[j]?.getD 0 + if i = j then n else 0) := by
  have hl := h.1
  have hb := h.get j hj
  unfold addAt
  rw [List.getElem?_set]
  by_cases e : i = j
  · subst e
    rw [if_pos rfl, if_pos (by omega), if_pos rfl]
    simp only [Option.getD_some, sat]
    split <;> omega
  · rw [if_neg e, if_neg e]; omega
theorem run_cts : ∀ (l : List (Nat × Int)) {cs : List Int}, Cts cs → (∀ x ∈ l, x.1 < 12 ∧ 0 ≤ x.2) → Cts (runOps cs l)
  | [], _, h, _ => h
  | x :: l, cs, h, hx => run_cts l (h.add (hx x (by simp)).1 (hx x (by simp)).2) fun y hy => hx y (by simp [hy])
theorem run_get {j : Nat} (hj : j < 12) : ∀ (l : List (Nat × Int)) {cs : List Int}, Cts cs → (∀ x ∈ l, x.1 < 12 ∧ 0 ≤ x.2) → (runOps cs l)[j]?.getD 0 = min 4611686018427387904 (cs[j]?.getD 0 + sumAt j l)
  | [], cs, h, _ => by have := h.get j hj; simp only [runOps, List.foldl_nil, sumAt]; omega
  | x :: l, cs, h, hx => by
    have h1 := hx x (by simp)
    have h2 := run_get hj l (h.add h1.1 h1.2) fun y hy => hx y (by simp [hy])
    have h3 := sumAt_nonneg j l fun y hy => hx y (by simp [hy])
    have h4 := addAt_get h h1.1 hj h1.2
    have : runOps cs (x :: l) = runOps (addAt cs x.1 x.2) l := rfl
    rw [this, h2, h4]
    simp only [sumAt]
    split <;> omega
theorem zeros_cts : Cts zeros12 := ⟨rfl, fun c hc => by simp [zeros12] at hc; omega⟩
theorem foldl_act : ∀ (l : List ActD) (cs : List Int), l.foldl actStep cs = runOps cs (l.flatMap opsAct)
  | [], _ => rfl
  | a :: l, cs => by rw [List.foldl_cons, foldl_act l, actStep_ops, List.flatMap_cons, runOps_append]
theorem acts_ok {l : List ActD} : ∀ x ∈ l.flatMap opsAct, x.1 < 12 ∧ 0 ≤ x.2 := fun x hx => by
  obtain ⟨a, _, ha⟩ := List.mem_flatMap.1 hx
  exact opsAct_ok x ha
theorem count_cts (l : List ActD) : Cts (countL l) := by
  unfold countL; rw [foldl_act]; exact run_cts _ zeros_cts acts_ok
theorem zeros_get : ∀ j : Nat, j < 12 → zeros12[j]?.getD 0 = 0 := by decide +kernel
theorem count_get {j : Nat} (hj : j < 12) (l : List ActD) : (countL l)[j]?.getD 0 = min 4611686018427387904 (sumAt j (l.flatMap opsAct)) := by
  unfold countL; rw [foldl_act, run_get hj _ zeros_cts acts_ok, zeros_get j hj, Int.zero_add]
theorem sum_reverse (j : Nat) : ∀ l : List ActD, sumAt j (l.reverse.flatMap opsAct) = sumAt j (l.flatMap opsAct)
  | [] => rfl
  | a :: l => by
    rw [List.reverse_cons, List.flatMap_append, sumAt_append, sum_reverse j l, List.flatMap_cons, List.flatMap_nil, List.append_nil, List.flatMap_cons, sumAt_append]; omega
theorem count_reverse {j : Nat} (hj : j < 12) (l : List ActD) : (countL l.reverse)[j]?.getD 0 = (countL l)[j]?.getD 0 := by
  rw [count_get hj, count_get hj, sum_reverse]
theorem joinF_get {j : Nat} (hj : j < 12) {ds : List Int} (hd : Cts ds) : ∀ (k i : Nat) {cs : List Int}, Cts cs → i + k ≤ 12 → Cts (joinF cs ds i k) ∧ (joinF cs ds i k)[j]?.getD 0 = min 4611686018427387904 (cs[j]?.getD 0 + if i ≤ j ∧ j < i + k then ds[j]?.getD 0 else 0)
  | 0, i, cs, h, _ => by
    refine ⟨h, ?_⟩
    have := h.get j hj
    simp only [joinF]
    rw [if_neg (by omega)]; omega
  | k + 1, i, cs, h, hik => by
    have hi := hd.get i (by omega)
    have hdj := hd.get j hj
    obtain ⟨h1, h2⟩ := joinF_get hj hd k (i + 1) (h.add (i := i) (n := ds[i]?.getD 0) (by omega) hi.1) (by omega)
    refine ⟨h1, ?_⟩
    show (joinF (addAt cs i (ds[i]?.getD 0)) ds (i + 1) k)[j]?.getD 0 = _
    rw [h2, addAt_get h (by omega) hj hi.1]
    by_cases e : i = j
    · subst e
      rw [if_pos rfl, if_neg (by omega), if_pos (by omega)]; omega
    · rw [if_neg e]
      by_cases e2 : i + 1 ≤ j ∧ j < i + 1 + k
      · rw [if_pos e2, if_pos (by omega)]
        have := h.get j hj
        omega
      · rw [if_neg e2, if_neg (by omega)]
        have := h.get j hj
        omega
theorem join_get {j : Nat} (hj : j < 12) {cs ds : List Int} (h : Cts cs) (hd : Cts ds) : (joinL cs ds)[j]?.getD 0 = min 4611686018427387904 (cs[j]?.getD 0 + ds[j]?.getD 0) := by
  have := (joinF_get hj hd 12 0 h (by decide)).2
  rw [if_pos (by omega)] at this
  exact this
theorem join_count {j : Nat} (hj : j < 12) (l o : List ActD) : (joinL (countL l) (countL o))[j]?.getD 0 = (countL (l ++ o))[j]?.getD 0 := by
  rw [join_get hj (count_cts l) (count_cts o), count_get hj, count_get hj, count_get hj, List.flatMap_append, sumAt_append]
  have h1 := sumAt_nonneg j _ (acts_ok (l := l))
  have h2 := sumAt_nonneg j _ (acts_ok (l := o))
  omega
theorem join_count' {j : Nat} (hj : j < 12) (l o : List ActD) : (joinL (countL o) (countL l))[j]?.getD 0 = (countL (l ++ o))[j]?.getD 0 := by
  rw [join_get hj (count_cts o) (count_cts l), count_get hj, count_get hj, count_get hj, List.flatMap_append, sumAt_append]
  have h1 := sumAt_nonneg j _ (acts_ok (l := l))
  have h2 := sumAt_nonneg j _ (acts_ok (l := o))
  omega
end Go.Proofs.YtgkolnknobgcmaaGreat
end
section
namespace Go.Proofs.YtgkolnknobgcmaaGreat
open Go Go.Proofs.YtgkolnknobgcmaaGreatV Go.Shelf
set_option maxRecDepth 20000
set_option linter.unusedSimpArgs false
set_option linter.unusedVariables false
set_option maxHeartbeats 4000000
theorem bC370 : type_of% @Tryz.underlying3 ∧ type_of% @ty3 ∧ type_of% @zero3 ∧ type_of% @Tryz.underlying9 ∧ type_of% @ty9 ∧ type_of% @zero9 ∧ type_of% @Tryz.underlying25 ∧ type_of% @ty25 ∧ type_of% @zero25 ∧ type_of% @Tryz.underlying36 ∧ type_of% @ty36 ∧ type_of% @zero36 ∧ type_of% @Tryz.underlying37 ∧ type_of% @einf37 ∧ type_of% @elt37 ∧ type_of% @ty37 ∧ type_of% @zero37 ∧ type_of% @Tryz.underlying39 ∧ type_of% @elt39 ∧ type_of% @fld39_0 ∧ type_of% @fld39_1 ∧ type_of% @fld39_2 ∧ type_of% @flds39 ∧ type_of% @ty39 ∧ type_of% @zero39 ∧ type_of% @Tryz.underlying59 ∧ type_of% @einf59 ∧ type_of% @elt59 ∧ type_of% @ty59 ∧ type_of% @zero59 ∧ type_of% @Tryz.underlying60 ∧ type_of% @einf60 ∧ type_of% @elt60 ∧ type_of% @ty60 ∧ type_of% @zero60 ∧ type_of% @Tryz.underlying63 ∧ type_of% @elt63 ∧ type_of% @fld63_0 ∧ type_of% @fld63_1 ∧ type_of% @fld63_2 ∧ type_of% @fld63_3 ∧ type_of% @fld63_4 ∧ type_of% @fld63_5 ∧ type_of% @fld63_6 ∧ type_of% @fld63_7 ∧ type_of% @flds63 ∧ type_of% @ty63 ∧ type_of% @zero63 ∧ type_of% @Tryz.underlying64 ∧ type_of% @elt64 ∧ type_of% @fld64_0 ∧ type_of% @fld64_1 ∧ type_of% @fld64_2 ∧ type_of% @fld64_3 ∧ type_of% @fld64_4 ∧ type_of% @fld64_5 ∧ type_of% @fld64_6 ∧ type_of% @fld64_7 ∧ type_of% @flds64 ∧ type_of% @ty64 ∧ type_of% @zero64 ∧ type_of% @Tryz.underlying66 ∧ type_of% @elt66 ∧ type_of% @fld66_0 ∧ type_of% @fld66_1 ∧ type_of% @flds66 ∧ type_of% @ty66 ∧ type_of% @zero66 ∧ type_of% @Tryz.ntmps6 := ⟨@Tryz.underlying3, @ty3, @zero3, @Tryz.underlying9, @ty9, @zero9, @Tryz.underlying25, @ty25, @zero25, @Tryz.underlying36, @ty36, @zero36, @Tryz.underlying37, @einf37, @elt37, @ty37, @zero37, @Tryz.underlying39, @elt39, @fld39_0, @fld39_1, @fld39_2, @flds39, @ty39, @zero39, @Tryz.underlying59, @einf59, @elt59, @ty59, @zero59, @Tryz.underlying60, @einf60, @elt60, @ty60, @zero60, @Tryz.underlying63, @elt63, @fld63_0, @fld63_1, @fld63_2, @fld63_3, @fld63_4, @fld63_5, @fld63_6, @fld63_7, @flds63, @ty63, @zero63, @Tryz.underlying64, @elt64, @fld64_0, @fld64_1, @fld64_2, @fld64_3, @fld64_4, @fld64_5, @fld64_6, @fld64_7, @flds64, @ty64, @zero64, @Tryz.underlying66, @elt66, @fld66_0, @fld66_1, @flds66, @ty66, @zero66, @Tryz.ntmps6⟩
variable {H : Mem} {K : Value → Mem → Prop}

/-- Two slices of one's own, side by side: either may be written first. -/
theorem OwnV.swap {n m : Nat} {B G H : Mem} {v w : Value} {i k : Nat} {cs ds : List Value} (h : OwnV n B v i cs G) (g : OwnV m G w k ds H) : ∃ G', OwnV m B w k ds G' ∧ OwnV n G' v i cs H := by
  obtain ⟨hl, ⟨h1, h2, rfl⟩ | ⟨b, cap, r, hb, h1, h2, h3, rfl⟩⟩ := g
  · exact ⟨B, ⟨hl, .inl ⟨h1, h2, rfl⟩⟩, h⟩
  · exact ⟨B.upd b ⟨true, r, ds⟩, ⟨hl, .inr ⟨b, cap, r, le_none h.le hb, h1, h2, h3, rfl⟩⟩, h.upd hb _⟩
theorem OwnV.forget {n m : Nat} {B0 B G H : Mem} {v w : Value} {i k : Nat} {cs ds : List Value} (hle : B0.le B) (h : OwnV n B v i cs G) (g : OwnV m G w k ds H) : ∃ G' H', OwnV n B0 v i cs G' ∧ OwnV m G' w k ds H' ∧ H'.le H := by
  obtain ⟨G', h1, h2⟩ := h.base hle
  obtain ⟨H', h3, h4⟩ := g.base h2
  exact ⟨G', H', h1, h3, h4⟩
def sdL (l : List Stz) : List (Int × Stz) := l.mapIdx fun i z => ((i : Int), z)
def fineL (l : List Stz) : List Stz := l.filter fun z => errS z == 0
theorem sdL_snoc (l : List Stz) (z : Stz) : sdL (l ++ [z]) = sdL l ++ [((l.length : Int), z)] := by simp [sdL, List.mapIdx_concat]
theorem sdL_length (l : List Stz) : (sdL l).length = l.length := by simp [sdL]
theorem sdL_two (l : List Stz) : (sdL l).map (·.2) = l := by
  apply List.ext_getElem?
  intro j
  simp only [sdL, List.getElem?_map, List.getElem?_mapIdx]
  cases l[j]? <;> rfl
theorem kindP_big (k : Int) : kindP k = -1 ∨ 4 ≤ kindP k := by
  unfold kindP
  repeat' split
  all_goals first | exact .inl rfl | exact .inr (by decide)
theorem sumAt_one {j : Nat} (hj : j < 4) (z : Stz) : sumAt j (opsOne z) = if j = 3 then sizeF (putOf z) else 0 := by
  unfold opsOne
  rcases kindP_big z.k with h | h
  · rw [if_pos h]; simp only [sumAt]; split <;> split <;> omega
  · rw [if_neg (by omega)]
    simp only [sumAt]
    rw [if_neg (show ¬ (kindP z.k).toNat = j by omega)]
    split <;> split <;> omega
theorem sumAt_flat {j : Nat} (hj : j < 3) : ∀ l : List Stz, sumAt j (l.flatMap opsOne) = 0
  | [] => rfl
  | z :: l => by rw [List.flatMap_cons, sumAt_append, sumAt_one (by omega), if_neg (by omega), sumAt_flat hj l]; rfl
theorem sumAt_bytes : ∀ l : List Stz, sumAt 3 (l.flatMap opsOne) = ((((fineL l).map putL).flatMap fr).length : Int)
  | [] => rfl
  | z :: l => by
    rw [List.flatMap_cons, sumAt_append, sumAt_one (by decide), if_pos rfl, sumAt_bytes l]
    cases hz : (errS z == 0)
    · have : errS z ≠ 0 := by simpa using hz
      have e1 : fineL (z :: l) = fineL l := by simp [fineL, hz]
      rw [e1]; simp [putOf, this, sizeF]
    · have hz' : errS z = 0 := by simpa using hz
      have e1 : fineL (z :: l) = z :: fineL l := by simp [fineL, hz]
      obtain ⟨h1, h2⟩ := putL_fits hz'
      rw [e1]
      simp only [putOf, if_pos hz', sizeF, List.map_cons, List.flatMap_cons, List.length_append, fr_length]
      rw [if_neg (by intro h; rcases h with h | h; exact h2 h; omega)]
      omega
def actN (l : List Stz) : ActD := ⟨0, sdL l, .nilIface, none, 0, 0, [], 0⟩
def cNote (l : List Stz) : List Int := noteL zeros12 0 (sdL l) 0
theorem cNote_get {j : Nat} (hj : j < 12) (l : List Stz) : (cNote l)[j]?.getD 0 = min 4611686018427387904 (sumAt j ((0, 1) :: (2, (l.length : Int)) :: (11, 0) :: l.flatMap opsOne)) := by
  have e1 : cNote l = runOps zeros12 (opsAct (actN l)) := by rw [← actStep_ops]; rfl
  have e2 : opsAct (actN l) = (0, 1) :: (2, (l.length : Int)) :: (11, 0) :: l.flatMap opsOne := by
    have : (sdL l).flatMap (fun x => opsOne x.2) = l.flatMap opsOne := by
      conv => rhs; rw [← sdL_two l]
      rw [List.flatMap_map]
    simp [opsAct, actN, this, sdL_length]
  rw [e1, run_get hj _ zeros_cts opsAct_ok, zeros_get j hj, Int.zero_add, e2]
theorem fine_len {l : List Stz} (h : l.length ≤ 20) : (((fineL l).map putL).flatMap fr).length ≤ 2600 := by
  have h1 := frs_len ((fineL l).map putL) (fun s hs => by
    obtain ⟨z, hz, rfl⟩ := List.mem_map.1 hs
    have := putL_fits (z := z) (by simpa [fineL] using (List.mem_filter.1 hz).2)
    exact ⟨this.2, this.1⟩)
  have h2 : (fineL l).length ≤ l.length := List.length_filter_le _ _
  rw [List.length_map] at h1; omega
theorem note_steps (l : List Stz) : getP (cNote l) [115, 116, 101, 112, 115] = 1 := by
  rw [getP, show placeL namesL [115, 116, 101, 112, 115] = 0 from by decide +kernel, if_neg (by decide), show (0 : Int).toNat = 0 from rfl, cNote_get (by decide)]
  simp only [sumAt]; rw [sumAt_flat (by decide)]; simp; omega
theorem note_wrong (l : List Stz) : getP (cNote l) [119, 114, 111, 110, 103] = 0 := by
  rw [getP, show placeL namesL [119, 114, 111, 110, 103] = 1 from by decide +kernel, if_neg (by decide), show (1 : Int).toNat = 1 from rfl, cNote_get (by decide)]
  simp only [sumAt]; rw [sumAt_flat (by decide)]; simp; omega
theorem note_said {l : List Stz} (h : l.length ≤ 20) : getP (cNote l) [115, 97, 105, 100] = l.length := by
  rw [getP, show placeL namesL [115, 97, 105, 100] = 2 from by decide +kernel, if_neg (by decide), show (2 : Int).toNat = 2 from rfl, cNote_get (by decide)]
  simp only [sumAt]; rw [sumAt_flat (by decide)]; simp; omega
theorem note_bytes {l : List Stz} (h : l.length ≤ 20) : getP (cNote l) [98, 121, 116, 101, 115] = ((((fineL l).map putL).flatMap fr).length : Int) := by
  have h2 := fine_len h
  rw [getP, show placeL namesL [98, 121, 116, 101, 115] = 3 from by decide +kernel, if_neg (by decide), show (3 : Int).toNat = 3 from rfl, cNote_get (by decide)]
  simp only [sumAt]; rw [sumAt_bytes]
  generalize (((fineL l).map putL).flatMap fr).length = m at h2 ⊢
  simp; omega
theorem del_but_le {b : Nat} {G H1 H2 : Mem} (h : G.le H1) (k : LeBut b H1 H2) : (G.del b).le H2 := ⟨fun x B hB => by
  simp only [Mem.del] at hB
  split at hB
  · cases hB
  · rename_i hx
    obtain ⟨C, h1, h2⟩ := h.1 x B hB
    obtain ⟨D, h3, h4⟩ := k.1 x C hx h1
    exact ⟨D, h3, Blk.le_trans h2 h4⟩, fun x y hy => k.2 x y (h.2 x y hy), fun u hu => k.3 u (h.3 u hu), fun x y hy => k.4 x y (h.4 x y hy)⟩
theorem tbytes_W {v : Value} {l : List Stz} (hB : Base H) (hv : SrcV 8 H v l.length (l.flatMap Stz.cells)) (h : ∀ H', H.le H' → K (.bool true) H') : InvW Tryz.prog 6 #[v] H K := by
  obtain ⟨a0, c, rfl⟩ := hv.slice
  cases c1 : decide ((20 : Int) < l.length)
  case true =>
    (refine invW_of_pw Tryz.func6 rfl rfl (by decide +kernel) (by simp [Tryz.f6]) ?_); simp -dsimp -failIfUnchanged (maxSteps := 2000000) (disch := omega) only [VA, if_true_, if_false_, reduceIte, Nat.reduceEqDiff, Nat.reduceAdd, Nat.reduceMul, Nat.reduceSub, Int.reduceToNat, Int.reduceAdd, Int.reduceNeg, Int.reduceSub, Int.reduceMul, Int.reduceBEq, Int.reduceBNe, Int.reduceLT, Int.reduceLE, Int.reduceEq, beq_self_eq_true, Int.reducePow, Nat.reducePow, Int.reduceDiv, Nat.reduceLeDiff, reduceCtorEq, Tryz.f6, Tryz.results6, bC370, c1]
    refine awake_W hB fun H' hl => ?_
    simp -dsimp -failIfUnchanged (maxSteps := 2000000) (disch := omega) only [VA, if_true_, if_false_, reduceIte, Nat.reduceEqDiff, Nat.reduceAdd, Nat.reduceMul, Nat.reduceSub, Int.reduceToNat, Int.reduceAdd, Int.reduceNeg, Int.reduceSub, Int.reduceMul, Int.reduceBEq, Int.reduceBNe, Int.reduceLT, Int.reduceLE, Int.reduceEq, beq_self_eq_true, Int.reducePow, Nat.reducePow, Int.reduceDiv, Nat.reduceLeDiff, reduceCtorEq, Tryz.f6, Tryz.results6, bC370]
    exact h H' hl
  have c1' := of_decide_eq_false c1
  (refine invW_of_pw Tryz.func6 rfl rfl (by decide +kernel) (by simp [Tryz.f6]) ?_); simp -dsimp -failIfUnchanged (maxSteps := 2000000) (disch := omega) only [VA, if_true_, if_false_, reduceIte, Nat.reduceEqDiff, Nat.reduceAdd, Nat.reduceMul, Nat.reduceSub, Int.reduceToNat, Int.reduceAdd, Int.reduceNeg, Int.reduceSub, Int.reduceMul, Int.reduceBEq, Int.reduceBNe, Int.reduceLT, Int.reduceLE, Int.reduceEq, beq_self_eq_true, Int.reducePow, Nat.reducePow, Int.reduceDiv, Nat.reduceLeDiff, reduceCtorEq, Tryz.f6, Tryz.results6, bC370, c1]
  refine newT_W fun b Hb hb hbl hbT hbp => ?_
  simp -dsimp -failIfUnchanged (maxSteps := 2000000) (disch := omega) only [VA, if_true_, if_false_, reduceIte, Nat.reduceEqDiff, Nat.reduceAdd, Nat.reduceMul, Nat.reduceSub, Int.reduceToNat, Int.reduceAdd, Int.reduceNeg, Int.reduceSub, Int.reduceMul, Int.reduceBEq, Int.reduceBNe, Int.reduceLT, Int.reduceLE, Int.reduceEq, beq_self_eq_true, Int.reducePow, Nat.reducePow, Int.reduceDiv, Nat.reduceLeDiff, reduceCtorEq, Tryz.f6, Tryz.results6, bC370, Option.isNone_some]
  intro n hn
  simp -dsimp -failIfUnchanged (maxSteps := 2000000) (disch := omega) only [VA, if_true_, if_false_, reduceIte, Nat.reduceEqDiff, Nat.reduceAdd, Nat.reduceMul, Nat.reduceSub, Int.reduceToNat, Int.reduceAdd, Int.reduceNeg, Int.reduceSub, Int.reduceMul, Int.reduceBEq, Int.reduceBNe, Int.reduceLT, Int.reduceLE, Int.reduceEq, beq_self_eq_true, Int.reducePow, Nat.reducePow, Int.reduceDiv, Nat.reduceLeDiff, reduceCtorEq, Tryz.f6, Tryz.results6, bC370]
  have hnb : n ≠ b := by obtain ⟨_, _, h1, _⟩ := id hbT; exact ne_of_some hn h1
  refine loop_enter (loop_ind ?_ (fun (i : Nat) e1 H1 => e1.ds = [] ∧ e1 0 = .slice a0 l.length c ∧ e1 3 = .pointer (some ⟨b, 0, none⟩) ∧ e1 4 = .pointer (some ⟨n, 0, none⟩) ∧ e1 6 = .int .i64 i ∧ i ≤ l.length ∧ (l.take i).all lightB = true ∧
      ∃ v w G, e1 5 = w ∧ OwnV 8 (Hb.upd n ⟨true, 3, [.int .i64 0, v, .slice none 0 0]⟩) w (fineL (l.take i)).length ((fineL (l.take i)).flatMap Stz.cells) G ∧ OwnV 9 G v i (saidC (sdL (l.take i))) H1) (fun i => l.length - i) ?_ 0 _ _ ?_)
  · decide +kernel
  rotate_left
  · simp -dsimp -failIfUnchanged (maxSteps := 2000000) (disch := omega) only [VA, if_true_, if_false_, reduceIte, Nat.reduceEqDiff, Nat.reduceAdd, Nat.reduceMul, Nat.reduceSub, Int.reduceToNat, Int.reduceAdd, Int.reduceNeg, Int.reduceSub, Int.reduceMul, Int.reduceBEq, Int.reduceBNe, Int.reduceLT, Int.reduceLE, Int.reduceEq, beq_self_eq_true, Int.reducePow, Nat.reducePow, Int.reduceDiv, Nat.reduceLeDiff, reduceCtorEq, Tryz.f6, Tryz.results6, bC370]
    refine ⟨trivial, trivial, trivial, ?_, ?_, ?_, ?_, .slice none 0 0, _, _, (by trivial), OwnV.nil, OwnV.nil⟩ <;> first | trivial | rfl | omega
  rintro i e1 H1 ⟨d0, d1, d2, d3, d4, hi, hall, v, w, G, d5, hw, hv9⟩ ih
  have hle1 : (Hb.upd n ⟨true, 3, [.int .i64 0, v, .slice none 0 0]⟩).le H1 := Mem.le_trans hw.le hv9.le
  have hHb1 : Hb.le H1 := Mem.le_trans (Mem.le_upd hn _) hle1
  have hH1 : H.le H1 := Mem.le_trans hbl hHb1
  by_cases hlt : i < l.length
  · have q1 : decide ((i : Int) < l.length) = true := decide_eq_true (by omega)
    obtain ⟨z, hz⟩ : ∃ z, l[i]? = some z := ⟨l[i], by simp⟩
    have hzm := List.mem_of_getElem? hz
    have htk : l.take (i + 1) = l.take i ++ [z] := by rw [List.take_add_one, hz]; rfl
    have htl : (l.take i).length = i := by simp; omega
    obtain ⟨b2, o, c', hab, hrd0⟩ := SrcV.block (f := Stz.cells) hv (by omega) (by decide)
    cases hab
    have r0 := flat_read (f := Stz.cells) (n := 8) (fun _ => rfl) hrd0 hz (k := 0) (m := 8) (ws := z.cells) (by decide) rfl
    rw [Nat.add_zero] at r0
    have r1 := read_le hH1 r0
    unfold Stz.cells at r1
    simp -dsimp -failIfUnchanged (maxSteps := 2000000) (disch := omega) only [VA, if_true_, if_false_, reduceIte, Nat.reduceEqDiff, Nat.reduceAdd, Nat.reduceMul, Nat.reduceSub, Int.reduceToNat, Int.reduceAdd, Int.reduceNeg, Int.reduceSub, Int.reduceMul, Int.reduceBEq, Int.reduceBNe, Int.reduceLT, Int.reduceLE, Int.reduceEq, beq_self_eq_true, Int.reducePow, Nat.reducePow, Int.reduceDiv, Nat.reduceLeDiff, reduceCtorEq, Tryz.f6, Tryz.results6, bC370, d0, d1, d2, d3, d4, q1, r1, Int.toNat_natCast]
    refine light_W (z := z) ?_
    cases hlz : lightB z
    · simp -dsimp -failIfUnchanged (maxSteps := 2000000) (disch := omega) only [VA, if_true_, if_false_, reduceIte, Nat.reduceEqDiff, Nat.reduceAdd, Nat.reduceMul, Nat.reduceSub, Int.reduceToNat, Int.reduceAdd, Int.reduceNeg, Int.reduceSub, Int.reduceMul, Int.reduceBEq, Int.reduceBNe, Int.reduceLT, Int.reduceLE, Int.reduceEq, beq_self_eq_true, Int.reducePow, Nat.reducePow, Int.reduceDiv, Nat.reduceLeDiff, reduceCtorEq, Tryz.f6, Tryz.results6, bC370, d0, d1, d2, d3, d4]
      refine awake_W (hB.le hH1) fun H' hl => ?_
      simp -dsimp -failIfUnchanged (maxSteps := 2000000) (disch := omega) only [VA, if_true_, if_false_, reduceIte, Nat.reduceEqDiff, Nat.reduceAdd, Nat.reduceMul, Nat.reduceSub, Int.reduceToNat, Int.reduceAdd, Int.reduceNeg, Int.reduceSub, Int.reduceMul, Int.reduceBEq, Int.reduceBNe, Int.reduceLT, Int.reduceLE, Int.reduceEq, beq_self_eq_true, Int.reducePow, Nat.reducePow, Int.reduceDiv, Nat.reduceLeDiff, reduceCtorEq, Tryz.f6, Tryz.results6, bC370, d0]
      exact h H' (Mem.le_trans hH1 hl)
    simp -dsimp -failIfUnchanged (maxSteps := 2000000) (disch := omega) only [VA, if_true_, if_false_, reduceIte, Nat.reduceEqDiff, Nat.reduceAdd, Nat.reduceMul, Nat.reduceSub, Int.reduceToNat, Int.reduceAdd, Int.reduceNeg, Int.reduceSub, Int.reduceMul, Int.reduceBEq, Int.reduceBNe, Int.reduceLT, Int.reduceLE, Int.reduceEq, beq_self_eq_true, Int.reducePow, Nat.reducePow, Int.reduceDiv, Nat.reduceLeDiff, reduceCtorEq, Tryz.f6, Tryz.results6, bC370, d0, d1, d2, d3, d4]
    have hall' : (l.take (i + 1)).all lightB = true := by rw [htk]; simp [hall, hlz]
    obtain ⟨va, vc, rfl⟩ := hv9.src.slice
    have hx3 : G n = some ⟨true, 3, [.int .i64 0, .slice va i vc, .slice none 0 0]⟩ := hw.at (if_pos rfl)
    have r3 := read_cell (i := 1) hx3 rfl
    have hHG : H.le G := Mem.le_trans hbl (Mem.le_trans (Mem.le_upd hn _) hw.le)
    have r4 := read_le hHG r0
    unfold Stz.cells at r4
    refine draw_planB (.take 0 (.take 2 (.take 3 (.take 4 (.take 5 (.read 1 (.read 6 (.take 7 (.grow 8 (.grow 9 (.take 10 (.alt 11 .done .nil)) .nil) .nil))))))))) [1, 6] hv9.le ?_ ?_ ?_
    · decide +kernel
    · decide +kernel
    simp -dsimp -failIfUnchanged (maxSteps := 2000000) (disch := omega) only [VA, if_true_, if_false_, reduceIte, Nat.reduceEqDiff, Nat.reduceAdd, Nat.reduceMul, Nat.reduceSub, Int.reduceToNat, Int.reduceAdd, Int.reduceNeg, Int.reduceSub, Int.reduceMul, Int.reduceBEq, Int.reduceBNe, Int.reduceLT, Int.reduceLE, Int.reduceEq, beq_self_eq_true, Int.reducePow, Nat.reducePow, Int.reduceDiv, Nat.reduceLeDiff, reduceCtorEq, Tryz.f6, Tryz.results6, bC370, dV0, dV1, dV2, and_true, d0, d1, d2, d3, d4, r3, r4, Int.toNat_natCast, Nat.add_zero]
    refine semW_build ?_
    simp -dsimp -failIfUnchanged (maxSteps := 2000000) (disch := omega) only [VA, if_true_, if_false_, reduceIte, Nat.reduceEqDiff, Nat.reduceAdd, Nat.reduceMul, Nat.reduceSub, Int.reduceToNat, Int.reduceAdd, Int.reduceNeg, Int.reduceSub, Int.reduceMul, Int.reduceBEq, Int.reduceBNe, Int.reduceLT, Int.reduceLE, Int.reduceEq, beq_self_eq_true, Int.reducePow, Nat.reducePow, Int.reduceDiv, Nat.reduceLeDiff, reduceCtorEq, Tryz.f6, Tryz.results6, bC370, dV0, dV1, dV2, and_true, d0, d1, d2, d3, d4]
    refine build_W (cs := .int .i64 i :: z.cells) einf37 rfl (by decide) ?_ fun y hy => ⟨Mem.le_trans hv9.le (Mem.le_upd hy _), ?_⟩
    · simp -dsimp -failIfUnchanged (maxSteps := 2000000) (disch := omega) only [VA, if_true_, if_false_, reduceIte, Nat.reduceEqDiff, Nat.reduceAdd, Nat.reduceMul, Nat.reduceSub, Int.reduceToNat, Int.reduceAdd, Int.reduceNeg, Int.reduceSub, Int.reduceMul, Int.reduceBEq, Int.reduceBNe, Int.reduceLT, Int.reduceLE, Int.reduceEq, beq_self_eq_true, Int.reducePow, Nat.reducePow, Int.reduceDiv, Nat.reduceLeDiff, reduceCtorEq, Tryz.f6, Tryz.results6, bC370, dV0, dV1, dV2, and_true, zerosL]
      rfl
    simp -dsimp -failIfUnchanged (maxSteps := 2000000) (disch := omega) only [VA, if_true_, if_false_, reduceIte, Nat.reduceEqDiff, Nat.reduceAdd, Nat.reduceMul, Nat.reduceSub, Int.reduceToNat, Int.reduceAdd, Int.reduceNeg, Int.reduceSub, Int.reduceMul, Int.reduceBEq, Int.reduceBNe, Int.reduceLT, Int.reduceLE, Int.reduceEq, beq_self_eq_true, Int.reducePow, Nat.reducePow, Int.reduceDiv, Nat.reduceLeDiff, reduceCtorEq, Tryz.f6, Tryz.results6, bC370, dV0, dV1, dV2, and_true, d0, d1, d2, d3, d4]
    refine semW_append ?_
    simp -dsimp -failIfUnchanged (maxSteps := 2000000) (disch := omega) only [VA, if_true_, if_false_, reduceIte, Nat.reduceEqDiff, Nat.reduceAdd, Nat.reduceMul, Nat.reduceSub, Int.reduceToNat, Int.reduceAdd, Int.reduceNeg, Int.reduceSub, Int.reduceMul, Int.reduceBEq, Int.reduceBNe, Int.reduceLT, Int.reduceLE, Int.reduceEq, beq_self_eq_true, Int.reducePow, Nat.reducePow, Int.reduceDiv, Nat.reduceLeDiff, reduceCtorEq, Tryz.f6, Tryz.results6, bC370, dV0, dV1, dV2, and_true, d0, d1, d2, d3, d4]
    have hsrc : SrcV 9 (H1.upd y ⟨true, (Value.int .i64 i :: z.cells).length, .int .i64 i :: z.cells⟩) (.slice (some ⟨y, 0, none⟩) 1 1) 1 (.int .i64 i :: z.cells) := (OwnV.new (n := 9) (l := 1) (cs := .int .i64 i :: z.cells) hy rfl).src
    have hyG := le_none hv9.le hy
    have hyn : y ≠ n := ne_of_some hyG hx3
    refine append_own einf37 (by decide) rfl (hv9.upd hy _) hsrc rfl (by omega) (by omega) fun v' H' ho3 => ⟨Mem.le_trans (Mem.le_upd hyG _) ho3.le, ?_⟩
    obtain ⟨va', vc', rfl⟩ := ho3.src.slice
    have hx3' : (G.upd y ⟨true, (Value.int .i64 i :: z.cells).length, .int .i64 i :: z.cells⟩) n = _ := (upd_none (Ne.symm hyn)).trans hx3
    have w3 := write_cell (o := 1) (v := .slice va' (i + 1) vc') (ho3.at hx3') (by simp) (by decide)
    simp -dsimp -failIfUnchanged (maxSteps := 2000000) (disch := omega) only [VA, if_true_, if_false_, reduceIte, Nat.reduceEqDiff, Nat.reduceAdd, Nat.reduceMul, Nat.reduceSub, Int.reduceToNat, Int.reduceAdd, Int.reduceNeg, Int.reduceSub, Int.reduceMul, Int.reduceBEq, Int.reduceBNe, Int.reduceLT, Int.reduceLE, Int.reduceEq, beq_self_eq_true, Int.reducePow, Nat.reducePow, Int.reduceDiv, Nat.reduceLeDiff, reduceCtorEq, Tryz.f6, Tryz.results6, bC370, dV0, dV1, dV2, and_true, d0, d1, d2, d3, d4, w3, List.set]
    have ho4 := ho3.reup hx3' (B' := ⟨true, 3, [.int .i64 0, .slice va' (i + 1) vc', .slice none 0 0]⟩)
    have hw4 := hw.reup (if_pos rfl) (B' := ⟨true, 3, [.int .i64 0, .slice va' (i + 1) vc', .slice none 0 0]⟩)
    rw [upd_same] at hw4
    have hyGn : (G.upd n ⟨true, 3, [.int .i64 0, .slice va' (i + 1) vc', .slice none 0 0]⟩) y = none := by rw [upd_none hyn]; exact hyG
    have hw5 := hw4.upd hyGn ⟨true, (Value.int .i64 i :: z.cells).length, .int .i64 i :: z.cells⟩
    rw [← upd_comm hyn] at ho4
    have hB5 : (Hb.upd n ⟨true, 3, [.int .i64 0, .slice va' (i + 1) vc', .slice none 0 0]⟩).le ((Hb.upd n ⟨true, 3, [.int .i64 0, .slice va' (i + 1) vc', .slice none 0 0]⟩).upd y ⟨true, (Value.int .i64 i :: z.cells).length, .int .i64 i :: z.cells⟩) := Mem.le_upd (le_none hw4.le hyGn) _
    have hcs : saidC (sdL (l.take i)) ++ (.int .i64 i :: z.cells) = saidC (sdL (l.take (i + 1))) := by rw [htk, sdL_snoc, htl]; simp [saidC]
    rw [hcs] at ho4
    generalize hHH : H'.upd n ⟨true, 3, [.int .i64 0, .slice va' (i + 1) vc', .slice none 0 0]⟩ = HH at ho4 ⊢
    generalize hBB : (Hb.upd n ⟨true, 3, [.int .i64 0, .slice va' (i + 1) vc', .slice none 0 0]⟩) = BB at hB5 hw4 hw5
    have hbBB : Hb.le BB := by rw [← hBB]; exact Mem.le_upd hn _
    have hHHH : H.le HH := Mem.le_trans hbl (Mem.le_trans hbBB (Mem.le_trans hB5 (Mem.le_trans hw5.le ho4.le)))
    have r5 := read_le hHHH r0
    unfold Stz.cells at r5
    simp -dsimp -failIfUnchanged (maxSteps := 2000000) (disch := omega) only [VA, if_true_, if_false_, reduceIte, Nat.reduceEqDiff, Nat.reduceAdd, Nat.reduceMul, Nat.reduceSub, Int.reduceToNat, Int.reduceAdd, Int.reduceNeg, Int.reduceSub, Int.reduceMul, Int.reduceBEq, Int.reduceBNe, Int.reduceLT, Int.reduceLE, Int.reduceEq, beq_self_eq_true, Int.reducePow, Nat.reducePow, Int.reduceDiv, Nat.reduceLeDiff, reduceCtorEq, Tryz.f6, Tryz.results6, bC370, d0, d1, d2, d3, d4, r5, Int.toNat_natCast]
    refine checkS_W (z := z) (hB.le hHHH) (light_small hlz) ?_
    cases k1 : (errS z == 0)
    · have hfn : fineL (l.take (i + 1)) = fineL (l.take i) := by rw [htk]; simp [fineL, k1]
      simp -dsimp -failIfUnchanged (maxSteps := 2000000) (disch := omega) only [VA, if_true_, if_false_, reduceIte, Nat.reduceEqDiff, Nat.reduceAdd, Nat.reduceMul, Nat.reduceSub, Int.reduceToNat, Int.reduceAdd, Int.reduceNeg, Int.reduceSub, Int.reduceMul, Int.reduceBEq, Int.reduceBNe, Int.reduceLT, Int.reduceLE, Int.reduceEq, beq_self_eq_true, Int.reducePow, Nat.reducePow, Int.reduceDiv, Nat.reduceLeDiff, reduceCtorEq, Tryz.f6, Tryz.results6, bC370, d0, d1, d2, d3, d4, d5, k1]
      obtain ⟨G7, H7, g1, g2, g3⟩ := OwnV.forget hB5 hw5 ho4
      refine LoopW.from g3 (ih (i + 1) _ _ ?_ (by omega))
      simp -dsimp -failIfUnchanged (maxSteps := 2000000) (disch := omega) only [VA, if_true_, if_false_, reduceIte, Nat.reduceEqDiff, Nat.reduceAdd, Nat.reduceMul, Nat.reduceSub, Int.reduceToNat, Int.reduceAdd, Int.reduceNeg, Int.reduceSub, Int.reduceMul, Int.reduceBEq, Int.reduceBNe, Int.reduceLT, Int.reduceLE, Int.reduceEq, beq_self_eq_true, Int.reducePow, Nat.reducePow, Int.reduceDiv, Nat.reduceLeDiff, reduceCtorEq, Tryz.f6, Tryz.results6, bC370, d0, d1, d2, d3, d4, d5]
      refine ⟨trivial, trivial, trivial, trivial, by simp, by omega, hall', .slice va' (i + 1) vc', w, G7, (by trivial), ?_, g2⟩
      rw [hfn, hBB]; exact g1
    · have hfn : fineL (l.take (i + 1)) = fineL (l.take i) ++ [z] := by rw [htk]; simp [fineL, k1]
      simp -dsimp -failIfUnchanged (maxSteps := 2000000) (disch := omega) only [VA, if_true_, if_false_, reduceIte, Nat.reduceEqDiff, Nat.reduceAdd, Nat.reduceMul, Nat.reduceSub, Int.reduceToNat, Int.reduceAdd, Int.reduceNeg, Int.reduceSub, Int.reduceMul, Int.reduceBEq, Int.reduceBNe, Int.reduceLT, Int.reduceLE, Int.reduceEq, beq_self_eq_true, Int.reducePow, Nat.reducePow, Int.reduceDiv, Nat.reduceLeDiff, reduceCtorEq, Tryz.f6, Tryz.results6, bC370, d0, d1, d2, d3, d4, d5, k1, r5, Int.toNat_natCast]
      refine semW_build ?_
      simp -dsimp -failIfUnchanged (maxSteps := 2000000) (disch := omega) only [VA, if_true_, if_false_, reduceIte, Nat.reduceEqDiff, Nat.reduceAdd, Nat.reduceMul, Nat.reduceSub, Int.reduceToNat, Int.reduceAdd, Int.reduceNeg, Int.reduceSub, Int.reduceMul, Int.reduceBEq, Int.reduceBNe, Int.reduceLT, Int.reduceLE, Int.reduceEq, beq_self_eq_true, Int.reducePow, Nat.reducePow, Int.reduceDiv, Nat.reduceLeDiff, reduceCtorEq, Tryz.f6, Tryz.results6, bC370, d0, d1, d2, d3, d4, d5]
      refine build_W (cs := z.cells) einf60 rfl (by decide) ?_ fun y2 hy2 => ?_
      · simp -dsimp -failIfUnchanged (maxSteps := 2000000) (disch := omega) only [VA, if_true_, if_false_, reduceIte, Nat.reduceEqDiff, Nat.reduceAdd, Nat.reduceMul, Nat.reduceSub, Int.reduceToNat, Int.reduceAdd, Int.reduceNeg, Int.reduceSub, Int.reduceMul, Int.reduceBEq, Int.reduceBNe, Int.reduceLT, Int.reduceLE, Int.reduceEq, beq_self_eq_true, Int.reducePow, Nat.reducePow, Int.reduceDiv, Nat.reduceLeDiff, reduceCtorEq, Tryz.f6, Tryz.results6, bC370, zerosL]
        rfl
      simp -dsimp -failIfUnchanged (maxSteps := 2000000) (disch := omega) only [VA, if_true_, if_false_, reduceIte, Nat.reduceEqDiff, Nat.reduceAdd, Nat.reduceMul, Nat.reduceSub, Int.reduceToNat, Int.reduceAdd, Int.reduceNeg, Int.reduceSub, Int.reduceMul, Int.reduceBEq, Int.reduceBNe, Int.reduceLT, Int.reduceLE, Int.reduceEq, beq_self_eq_true, Int.reducePow, Nat.reducePow, Int.reduceDiv, Nat.reduceLeDiff, reduceCtorEq, Tryz.f6, Tryz.results6, bC370, d0, d1, d2, d3, d4, d5]
      refine semW_append ?_
      simp -dsimp -failIfUnchanged (maxSteps := 2000000) (disch := omega) only [VA, if_true_, if_false_, reduceIte, Nat.reduceEqDiff, Nat.reduceAdd, Nat.reduceMul, Nat.reduceSub, Int.reduceToNat, Int.reduceAdd, Int.reduceNeg, Int.reduceSub, Int.reduceMul, Int.reduceBEq, Int.reduceBNe, Int.reduceLT, Int.reduceLE, Int.reduceEq, beq_self_eq_true, Int.reducePow, Nat.reducePow, Int.reduceDiv, Nat.reduceLeDiff, reduceCtorEq, Tryz.f6, Tryz.results6, bC370, d0, d1, d2, d3, d4, d5]
      obtain ⟨G6, s1, s2⟩ := OwnV.swap hw5 ho4
      have hsrc2 : SrcV 8 (HH.upd y2 ⟨true, z.cells.length, z.cells⟩) (.slice (some ⟨y2, 0, none⟩) 1 1) 1 z.cells := (OwnV.new (n := 8) (l := 1) (cs := z.cells) hy2 rfl).src
      have hy2G := le_none s2.le hy2
      have s3 := s1.upd hy2G ⟨true, z.cells.length, z.cells⟩
      have hfl : (fineL (l.take i)).length ≤ l.length := Nat.le_trans (List.length_filter_le _ _) (by rw [htl]; omega)
      refine append_own einf60 (by decide) rfl (s2.upd hy2 _) hsrc2 rfl (by omega) (by omega) fun w' H9 ho9 => ?_
      simp -dsimp -failIfUnchanged (maxSteps := 2000000) (disch := omega) only [VA, if_true_, if_false_, reduceIte, Nat.reduceEqDiff, Nat.reduceAdd, Nat.reduceMul, Nat.reduceSub, Int.reduceToNat, Int.reduceAdd, Int.reduceNeg, Int.reduceSub, Int.reduceMul, Int.reduceBEq, Int.reduceBNe, Int.reduceLT, Int.reduceLE, Int.reduceEq, beq_self_eq_true, Int.reducePow, Nat.reducePow, Int.reduceDiv, Nat.reduceLeDiff, reduceCtorEq, Tryz.f6, Tryz.results6, bC370, d0, d1, d2, d3, d4, d5]
      have hB9 := Mem.le_trans hB5 (Mem.le_upd (le_none s1.le hy2G) ⟨true, z.cells.length, z.cells⟩)
      obtain ⟨G7, H7, g1, g2, g3⟩ := OwnV.forget hB9 s3 ho9
      obtain ⟨G8, t1, t2⟩ := OwnV.swap g1 g2
      refine LoopW.from g3 (ih (i + 1) _ _ ?_ (by omega))
      simp -dsimp -failIfUnchanged (maxSteps := 2000000) (disch := omega) only [VA, if_true_, if_false_, reduceIte, Nat.reduceEqDiff, Nat.reduceAdd, Nat.reduceMul, Nat.reduceSub, Int.reduceToNat, Int.reduceAdd, Int.reduceNeg, Int.reduceSub, Int.reduceMul, Int.reduceBEq, Int.reduceBNe, Int.reduceLT, Int.reduceLE, Int.reduceEq, beq_self_eq_true, Int.reducePow, Nat.reducePow, Int.reduceDiv, Nat.reduceLeDiff, reduceCtorEq, Tryz.f6, Tryz.results6, bC370, d0, d1, d2, d3, d4, d5]
      refine ⟨trivial, trivial, trivial, trivial, by simp, by omega, hall', .slice va' (i + 1) vc', w', G8, (by trivial), ?_, t2⟩
      rw [hfn, hBB]; simpa using t1
  · have q1 : decide ((i : Int) < l.length) = false := decide_eq_false (by omega)
    obtain rfl : i = l.length := by omega
    rw [List.take_length] at hw hv9 hall
    obtain ⟨va, vc, rfl⟩ := hv9.src.slice
    have hx3 : G n = some ⟨true, 3, [.int .i64 0, .slice va l.length vc, .slice none 0 0]⟩ := hw.at (if_pos rfl)
    have r6 := read_le hv9.le (read_all hx3 (k := 3) rfl)
    simp -dsimp -failIfUnchanged (maxSteps := 2000000) (disch := omega) only [VA, if_true_, if_false_, reduceIte, Nat.reduceEqDiff, Nat.reduceAdd, Nat.reduceMul, Nat.reduceSub, Int.reduceToNat, Int.reduceAdd, Int.reduceNeg, Int.reduceSub, Int.reduceMul, Int.reduceBEq, Int.reduceBNe, Int.reduceLT, Int.reduceLE, Int.reduceEq, beq_self_eq_true, Int.reducePow, Nat.reducePow, Int.reduceDiv, Nat.reduceLeDiff, reduceCtorEq, Tryz.f6, Tryz.results6, bC370, d0, d1, d2, d3, d4, q1, r6]
    have hsm : ∀ z ∈ l, z.small := fun z hz => light_small (List.all_eq_true.1 hall z hz)
    obtain ⟨rest, Bb, hbb, _⟩ := id hbT
    have hBB : (Hb.upd n ⟨true, 3, [.int .i64 0, .slice va l.length vc, .slice none 0 0]⟩) b = some Bb := by rw [upd_none (Ne.symm hnb)]; exact hbb
    have hGb := hw.at hBB
    refine note_at (l := sdL l) (hB.le (le_del hH1 hb)) (hbT.le hHb1) ?_ (by rw [sdL_length]; exact hv9.del hGb) (by rw [sdL_length]; omega) fun H2 hbut2 hT2 => ?_
    · intro x hx
      exact hsm x.2 (by rw [← sdL_two l]; exact List.mem_map_of_mem hx)
    simp -dsimp -failIfUnchanged (maxSteps := 2000000) (disch := omega) only [VA, if_true_, if_false_, reduceIte, Nat.reduceEqDiff, Nat.reduceAdd, Nat.reduceMul, Nat.reduceSub, Int.reduceToNat, Int.reduceAdd, Int.reduceNeg, Int.reduceSub, Int.reduceMul, Int.reduceBEq, Int.reduceBNe, Int.reduceLT, Int.reduceLE, Int.reduceEq, beq_self_eq_true, Int.reducePow, Nat.reducePow, Int.reduceDiv, Nat.reduceLeDiff, reduceCtorEq, Tryz.f6, Tryz.results6, bC370, d0, d1, d2, d3, d4, d5]
    have hle2 := hbut2.le hH1 hb
    have hsw : SrcV 8 H2 w (fineL l).length ((fineL l).flatMap Stz.cells) := (hw.del hBB).le (del_but_le hv9.le hbut2)
    refine encode_W (hB.le hle2) hsw ?_ ?_ ?_
    · intro z hz
      obtain ⟨h1, h2⟩ := List.mem_filter.1 hz
      exact ⟨hsm z h1, by simpa using h2⟩
    · have : (fineL l).length ≤ l.length := List.length_filter_le _ _
      omega
    have hT2' : TalAt H2 b (cNote l) := hT2
    have hbs := note_bytes (l := l) (by omega)
    have hbz := bs_size (((fineL l).map putL).flatMap fr)
    generalize ((fineL l).map putL).flatMap fr = ff at hbs hbz ⊢
    simp -dsimp -failIfUnchanged (maxSteps := 2000000) (disch := omega) only [VA, if_true_, if_false_, reduceIte, Nat.reduceEqDiff, Nat.reduceAdd, Nat.reduceMul, Nat.reduceSub, Int.reduceToNat, Int.reduceAdd, Int.reduceNeg, Int.reduceSub, Int.reduceMul, Int.reduceBEq, Int.reduceBNe, Int.reduceLT, Int.reduceLE, Int.reduceEq, beq_self_eq_true, Int.reducePow, Nat.reducePow, Int.reduceDiv, Nat.reduceLeDiff, reduceCtorEq, Tryz.f6, Tryz.results6, bC370, d0, d1, d2, d3, d4, d5]
    refine getT_W hT2' fun H3 hbut3 hT3 => ?_
    have hle3 := hbut3.le hle2 hb
    rw [hbs]
    simp -dsimp -failIfUnchanged (maxSteps := 2000000) (disch := omega) only [VA, if_true_, if_false_, reduceIte, Nat.reduceEqDiff, Nat.reduceAdd, Nat.reduceMul, Nat.reduceSub, Int.reduceToNat, Int.reduceAdd, Int.reduceNeg, Int.reduceSub, Int.reduceMul, Int.reduceBEq, Int.reduceBNe, Int.reduceLT, Int.reduceLE, Int.reduceEq, beq_self_eq_true, Int.reducePow, Nat.reducePow, Int.reduceDiv, Nat.reduceLeDiff, reduceCtorEq, Tryz.f6, Tryz.results6, bC370, d0, d1, d2, d3, d4, d5, hbz]
    refine getT_W hT3 fun H4 hbut4 hT4 => ?_
    have hle4 := hbut4.le hle3 hb
    rw [note_said (l := l) (by omega)]
    simp -dsimp -failIfUnchanged (maxSteps := 2000000) (disch := omega) only [VA, if_true_, if_false_, reduceIte, Nat.reduceEqDiff, Nat.reduceAdd, Nat.reduceMul, Nat.reduceSub, Int.reduceToNat, Int.reduceAdd, Int.reduceNeg, Int.reduceSub, Int.reduceMul, Int.reduceBEq, Int.reduceBNe, Int.reduceLT, Int.reduceLE, Int.reduceEq, beq_self_eq_true, Int.reducePow, Nat.reducePow, Int.reduceDiv, Nat.reduceLeDiff, reduceCtorEq, Tryz.f6, Tryz.results6, bC370, d0, d1, d2, d3, d4, d5]
    refine getT_W hT4 fun H5 hbut5 hT5 => ?_
    have hle5 := hbut5.le hle4 hb
    rw [note_steps l]
    simp -dsimp -failIfUnchanged (maxSteps := 2000000) (disch := omega) only [VA, if_true_, if_false_, reduceIte, Nat.reduceEqDiff, Nat.reduceAdd, Nat.reduceMul, Nat.reduceSub, Int.reduceToNat, Int.reduceAdd, Int.reduceNeg, Int.reduceSub, Int.reduceMul, Int.reduceBEq, Int.reduceBNe, Int.reduceLT, Int.reduceLE, Int.reduceEq, beq_self_eq_true, Int.reducePow, Nat.reducePow, Int.reduceDiv, Nat.reduceLeDiff, reduceCtorEq, Tryz.f6, Tryz.results6, bC370, d0, d1, d2, d3, d4, d5]
    refine getT_W hT5 fun H6 hbut6 hT6 => ?_
    have hle6 := hbut6.le hle5 hb
    rw [note_wrong l]
    simp -dsimp -failIfUnchanged (maxSteps := 2000000) (disch := omega) only [VA, if_true_, if_false_, reduceIte, Nat.reduceEqDiff, Nat.reduceAdd, Nat.reduceMul, Nat.reduceSub, Int.reduceToNat, Int.reduceAdd, Int.reduceNeg, Int.reduceSub, Int.reduceMul, Int.reduceBEq, Int.reduceBNe, Int.reduceLT, Int.reduceLE, Int.reduceEq, beq_self_eq_true, Int.reducePow, Nat.reducePow, Int.reduceDiv, Nat.reduceLeDiff, reduceCtorEq, Tryz.f6, Tryz.results6, bC370, d0, d1, d2, d3, d4, d5]
    refine awake_W (hB.le hle6) fun H7 hl7 => ?_
    simp -dsimp -failIfUnchanged (maxSteps := 2000000) (disch := omega) only [VA, if_true_, if_false_, reduceIte, Nat.reduceEqDiff, Nat.reduceAdd, Nat.reduceMul, Nat.reduceSub, Int.reduceToNat, Int.reduceAdd, Int.reduceNeg, Int.reduceSub, Int.reduceMul, Int.reduceBEq, Int.reduceBNe, Int.reduceLT, Int.reduceLE, Int.reduceEq, beq_self_eq_true, Int.reducePow, Nat.reducePow, Int.reduceDiv, Nat.reduceLeDiff, reduceCtorEq, Tryz.f6, Tryz.results6, bC370, d0]
    exact h H7 (Mem.le_trans hle6 hl7)
end Go.Proofs.YtgkolnknobgcmaaGreat
end
