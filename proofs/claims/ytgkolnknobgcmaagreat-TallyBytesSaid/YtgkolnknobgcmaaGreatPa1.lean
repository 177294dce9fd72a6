import Derived.Calls
import Derived.Tactics
import Derived.Laws.Sem
import Derived.Laws.World
import Derived.Laws.Cells
import Derived.Laws.Append
import Derived.Laws.Entries
import Derived.Laws.CopyRow
import Derived.CallsIn
import Derived.TacticsIn
import Derived.RangeFuncIn
import Derived.RangeFuncRecord
import Derived.RangeFuncLeaves
import Derived.Laws.Strings
import Derived.Laws.Bits64
import Derived.IntWalk
import Derived.Laws.MakeOwn
import Derived.Laws.AppendOwn
import Derived.Lib.ConvBytes
import Derived.Lib.AppendStr
import Derived.Laws.BytesArg
import Derived.Deep.Quiet
import Derived.StillTail
import Derived.Lib.UnsafeStr
import Derived.Lib.OthersKept
import Derived.Scope
import Derived.Laws.StructEq
import Derived.DefersIn
import Derived.LaidEqlPtr
/-! VBase, VOps, VSnd1, VSnd2, VPw, VRun, VSet, VMem, VMem2, VDraw, VRange, VWeak, VEq, VDefer, VTail, VSched, VPlan, VBut, VMark -/
section
namespace Go.Proofs.YtgkolnknobgcmaaGreatV
universe u

/-- A frame's slots, and its deferred calls. -/
structure Env where
  get : Nat → Value
  ds : List Deferred
instance : CoeFun Env (fun _ => Nat → Value) := ⟨Env.get⟩
/-- What is known of a block: its first cells, how many cells it has at least, whether it may be written. -/
structure Blk where
  rw : Bool
  room : Nat
  cs : List Value
/-- What is known of memory: first cells of blocks; objects that are no cells; a world whose blocks all stay as they were. -/
structure Mem where
  c : Nat → Option Blk
  o : Nat → Option Obj
  k : Option World
  p : Nat → Option (TypeId × Nat)
instance : CoeFun Mem (fun _ => Nat → Option Blk) := ⟨Mem.c⟩

def Env.set (e : Env) (t : Nat) (v : Value) : Env := ⟨fun s => if s = t then v else e s, e.ds⟩
def Env.put (e : Env) : Option Nat → Value → Env
  | some t, v => e.set t v
  | none, _ => e
def Mem.upd (H : Mem) (b : Nat) (B : Blk) : Mem := ⟨fun c => if c = b then some B else H c, H.o, H.k, H.p⟩
/-- An object that is no cells. -/
def Mem.updO (H : Mem) (b : Nat) (x : Option Obj) : Mem := ⟨H.c, fun c => if c = b then x else H.o c, H.k, H.p⟩
/-- A block of cells none of which was ever frozen. -/
def Mem.mark (H : Mem) (b : Nat) (x : TypeId × Nat) : Mem := ⟨H.c, H.o, H.k, fun c => if c = b then some x else H.p c⟩
/-- Block b was never frozen. -/
def Mem.pl (H : Mem) (b : Nat) : Prop := ∃ x, H.p b = some x

def Blk.le (A B : Blk) : Prop := A.cs <+: B.cs ∧ A.room ≤ B.room ∧ (A.rw = true → B.rw = true)
theorem Blk.le_refl (A : Blk) : A.le A := ⟨List.prefix_rfl, Nat.le_refl _, id⟩
theorem Blk.le_trans {A B C : Blk} (h : A.le B) (k : B.le C) : A.le C := ⟨h.1.trans k.1, Nat.le_trans h.2.1 k.2.1, k.2.2 ∘ h.2.2⟩
structure Mem.le (H H' : Mem) : Prop where
  c : ∀ b B, H b = some B → ∃ B', H' b = some B' ∧ B.le B'
  o : ∀ b x, H.o b = some x → H'.o b = some x
  k : ∀ u, H.k = some u → H'.k = some u
  p : ∀ b x, H.p b = some x → H'.p b = some x
theorem Mem.le_refl (H : Mem) : H.le H := ⟨fun _ B h => ⟨B, h, B.le_refl⟩, fun _ _ h => h, fun _ h => h, fun _ _ h => h⟩
theorem Mem.le_trans {H H' H'' : Mem} (h : H.le H') (k : H'.le H'') : H.le H'' := ⟨fun b B hb =>
  let ⟨_, h1, h2⟩ := h.1 b B hb; let ⟨C, h3, h4⟩ := k.1 b _ h1; ⟨C, h3, Blk.le_trans h2 h4⟩, fun b x hx => k.2 b x (h.2 b x hx), fun u hu => k.3 u (h.3 u hu), fun b x hb => k.4 b x (h.4 b x hb)⟩
theorem Mem.le.pl {H H' : Mem} (h : H.le H') {b : Nat} (hp : H.pl b) : H'.pl b := let ⟨x, hx⟩ := hp; ⟨x, h.4 b x hx⟩
theorem Mem.le_upd {H : Mem} {n : Nat} (h : H n = none) (B : Blk) : H.le (H.upd n B) := ⟨fun b C hb => by
  have : b ≠ n := by rintro rfl; rw [h] at hb; cases hb
  exact ⟨C, by simp [Mem.upd, this, hb], C.le_refl⟩, fun _ _ h => h, fun _ h => h, fun _ _ h => h⟩

/-- A block as it is known. -/
def Knows (o : Obj) (B : Blk) : Prop := ∃ c T lo hi, o = .cells c T (lo, hi) ∧ B.cs <+: c.toList ∧ B.room ≤ c.size ∧ (B.rw = true → ∀ i, i < c.size → (decide (lo ≤ i) && decide (i < hi)) = false)
def noCells : Obj → Bool
  | .cells .. => false
  | _ => true
/-- All blocks of u are as they were. -/
structure Stays (u w : World) : Prop where
  os : w.os = u.os
  output : w.output = u.output
  size : u.heap.size ≤ w.heap.size
  block : ∀ i, i < u.heap.size → w.heap[i]? = u.heap[i]?
  tape : w.tape = u.tape
theorem Stays.refl (u : World) : Stays u u := ⟨rfl, rfl, Nat.le_refl _, fun _ _ => rfl, rfl⟩
def Plain (w : World) (b : Nat) (x : TypeId × Nat) : Prop := ∃ c, w.heap[b]? = some (.cells c x.1 (0, 0)) ∧ c.size = x.2
structure Fits (w : World) (H : Mem) : Prop where
  c : ∀ b B, H b = some B → ∃ o, w.heap[b]? = some o ∧ Knows o B
  o : ∀ b x, H.o b = some x → noCells x = true ∧ w.heap[b]? = some x
  k : ∀ u, H.k = some u → Stays u w ∧ (∀ b B, H b = some B → B.rw = true → u.heap.size ≤ b) ∧ ∀ b x, H.o b = some x → u.heap.size ≤ b
  p : ∀ b x, H.p b = some x → Plain w b x

theorem Knows.mono {o : Obj} {A B : Blk} (h : Knows o B) (k : A.le B) : Knows o A := by
  obtain ⟨c, T, lo, hi, rfl, h1, h2, h3⟩ := h
  exact ⟨c, T, lo, hi, rfl, k.1.trans h1, Nat.le_trans k.2.1 h2, fun h => h3 (k.2.2 h)⟩
theorem Fits.mono {w : World} {H H' : Mem} (h : Fits w H') (k : H.le H') : Fits w H := ⟨fun b B hb =>
  let ⟨_, h1, h2⟩ := k.1 b B hb; let ⟨o, h3, h4⟩ := h.1 b _ h1; ⟨o, h3, h4.mono h2⟩, fun b x hx => h.2 b x (k.2 b x hx), fun u hu => by
  obtain ⟨h1, h2, h3⟩ := h.3 u (k.3 u hu)
  exact ⟨h1, fun b B hb hr => (let ⟨_, g1, g2⟩ := k.1 b B hb; h2 b _ g1 (g2.2.2 hr)), fun b x hx => h3 b x (k.2 b x hx)⟩, fun b x hb => h.4 b x (k.4 b x hb)⟩
theorem Fits.like {w w' : World} {H : Mem} (h : Fits w H) (e1 : w'.heap = w.heap) (e2 : w'.os = w.os) (e3 : w'.output = w.output) (e4 : w'.tape = w.tape) : Fits w' H :=
  ⟨fun b B hb => by rw [e1]; exact h.1 b B hb, fun b x hx => by rw [e1]; exact h.2 b x hx, fun u hu => by
    obtain ⟨⟨s1, s2, s3, s4, s5⟩, h2, h3⟩ := h.3 u hu
    exact ⟨⟨e2.trans s1, e3.trans s2, by rw [e1]; exact s3, fun i hi => by rw [e1]; exact s4 i hi, e4.trans s5⟩, h2, h3⟩, fun b x hb => by unfold Plain; rw [e1]; exact h.4 b x hb⟩
theorem Fits.drewN {w : World} {H : Mem} (h : Fits w H) (n : Nat) : Fits { w with drawn := n } H := h.like rfl rfl rfl rfl

theorem Fits.cell {w : World} {H : Mem} (h : Fits w H) {b o : Nat} {B : Blk} {v : Value} (hb : H b = some B) (hv : B.cs[o]? = some v) : w.cell? ⟨b, o, none⟩ = some v := by
  obtain ⟨_, h1, c, T, lo, hi, rfl, h2, _, _⟩ := h.1 b B hb
  obtain ⟨r, hr⟩ := h2
  have : c[o]? = some v := by
    rw [← Array.getElem?_toList, ← hr, List.getElem?_append_left (by have := (List.getElem?_eq_some_iff.1 hv).1; exact this)]; exact hv
  simp [World.cell?, h1, this]

theorem Fits.fresh {w : World} {H : Mem} (h : Fits w H) : H w.heap.size = none := by
  cases hb : H w.heap.size with
  | none => rfl
  | some B => obtain ⟨o, h1, _⟩ := h.1 _ B hb; simp at h1

theorem Fits.alloc {w : World} {H : Mem} (h : Fits w H) (c : Array Value) (T : TypeId) : Fits (w.alloc (.cells c T)) (H.upd w.heap.size ⟨true, c.size, c.toList⟩) := by
  refine ⟨?_, fun b x hx => ?_, fun u hu => ?_, fun b y hb => ?_⟩
  case refine_4 =>
    obtain ⟨c', h1, h2⟩ := h.4 b y hb
    have hlt : b < w.heap.size := by
      rcases Nat.lt_or_ge b w.heap.size with h | h
      · exact h
      · simp [Array.getElem?_eq_none h] at h1
    exact ⟨c', by show (w.heap.push _)[b]? = _; rw [Array.getElem?_push_lt hlt]; simpa [Array.getElem?_eq_getElem hlt] using h1, h2⟩
  case refine_3 =>
    obtain ⟨⟨s1, s2, s3, s4, s5⟩, h2, h3⟩ := h.3 u hu
    refine ⟨⟨s1, s2, by show _ ≤ (w.heap.push _).size; simp; omega, fun i hi => ?_, s5⟩, fun b B hb hr => ?_, h3⟩
    · show (w.heap.push _)[i]? = _
      rw [Array.getElem?_push_lt (by omega), ← s4 i hi]; simp [Array.getElem?_eq_getElem (show i < w.heap.size by omega)]
    · by_cases e : b = w.heap.size
      · omega
      · simp only [Mem.upd, e, if_false] at hb; exact h2 b B hb hr
  case refine_2 =>
    obtain ⟨h1, h2⟩ := h.2 b x hx
    have hlt : b < w.heap.size := by
      rcases Nat.lt_or_ge b w.heap.size with h | h
      · exact h
      · simp [Array.getElem?_eq_none h] at h2
    exact ⟨h1, by show (w.heap.push _)[b]? = _; rw [Array.getElem?_push_lt hlt]; simpa [Array.getElem?_eq_getElem hlt] using h2⟩
  intro b B hb
  by_cases e : b = w.heap.size
  · subst e
    simp only [Mem.upd, if_true, Option.some.injEq] at hb
    subst hb
    refine ⟨.cells c T, by show (w.heap.push _)[_]? = _; exact Array.getElem?_push_size, c, T, 0, 0, rfl, List.prefix_rfl, Nat.le_refl _, fun _ i _ => by simp⟩
  · simp only [Mem.upd, e, if_false] at hb
    obtain ⟨o, h1, h2⟩ := h.1 b B hb
    have hlt : b < w.heap.size := by
      rcases Nat.lt_or_ge b w.heap.size with h | h
      · exact h
      · simp [Array.getElem?_eq_none h] at h1
    exact ⟨o, by show (w.heap.push _)[b]? = _; rw [Array.getElem?_push_lt hlt]; simpa [Array.getElem?_eq_getElem hlt] using h1, h2⟩

/-- The cells of a block from place o on are vs. -/
def Blk.put (B : Blk) (o : Nat) (vs : List Value) : Blk := { B with cs := B.cs.take o ++ vs ++ B.cs.drop (o + vs.length) }

theorem Fits.setCell {w : World} {H : Mem} (h : Fits w H) {b o : Nat} {B : Blk} (hb : H b = some B) (hrw : B.rw = true) (v : Value) : Fits (w.setCell ⟨b, o, none⟩ v) (H.upd b { B with cs := B.cs.set o v }) := by
  refine ⟨?_, fun b' x hx => ?_, fun u hu => ?_, fun b' y hb' => ?_⟩
  case refine_4 =>
    obtain ⟨c', h1, h2⟩ := h.4 b' y hb'
    by_cases e : b = b'
    · subst e
      exact ⟨c'.setIfInBounds o v, by simp [World.setCell, Array.getElem?_modify, h1], by simpa using h2⟩
    · refine ⟨c', ?_, h2⟩
      simp only [World.setCell, Array.getElem?_modify]
      rw [if_neg e]; exact h1
  case refine_3 =>
    obtain ⟨⟨s1, s2, s3, s4, s5⟩, h2, h3⟩ := h.3 u hu
    have hub := h2 b B hb hrw
    refine ⟨⟨s1, s2, by simpa [World.setCell] using s3, fun i hi => ?_, s5⟩, fun b' B' hb' hr => ?_, h3⟩
    · simp only [World.setCell, Array.getElem?_modify]
      rw [if_neg (by omega)]; exact s4 i hi
    · by_cases e : b' = b
      · omega
      · simp only [Mem.upd, e, if_false] at hb'; exact h2 b' B' hb' hr
  case refine_2 =>
    obtain ⟨h1, h2⟩ := h.2 b' x hx
    refine ⟨h1, ?_⟩
    obtain ⟨_, g1, c, T, lo, hi, rfl, _⟩ := h.1 b B hb
    have hne : ¬ b = b' := by rintro rfl; rw [g1] at h2; cases h2; simp [noCells] at h1
    simp only [World.setCell, Array.getElem?_modify]
    rw [if_neg hne]; exact h2
  intro b' B' hb'
  by_cases e : b' = b
  · subst e
    simp only [Mem.upd, if_true, Option.some.injEq] at hb'
    subst hb'
    obtain ⟨_, h1, c, T, lo, hi, rfl, h2, h3, h4⟩ := h.1 b' B hb
    refine ⟨.cells (c.setIfInBounds o v) T (lo, hi), ?_, c.setIfInBounds o v, T, lo, hi, rfl, ?_, by simpa using h3, by simpa using h4⟩
    · simp [World.setCell, Array.getElem?_modify, h1]
    · obtain ⟨r, hr⟩ := h2
      simp only [Array.toList_setIfInBounds, ← hr]
      rw [List.set_append]
      split
      · exact List.prefix_append _ _
      · rw [List.set_eq_of_length_le (by omega)]; exact List.prefix_append _ _
  · simp only [Mem.upd, e, if_false] at hb'
    obtain ⟨o', h1, h2⟩ := h.1 b' B' hb'
    refine ⟨o', ?_, h2⟩
    simp only [World.setCell, Array.getElem?_modify]
    rw [if_neg (fun h => e h.symm)]; exact h1

theorem Fits.frozen {w : World} {H : Mem} (h : Fits w H) {b o : Nat} {B : Blk} (hb : H b = some B) (hrw : B.rw = true) (ho : o < B.room) : w.frozen? ⟨b, o, none⟩ = false := by
  obtain ⟨_, h1, c, T, lo, hi, rfl, h2, h3, h4⟩ := h.1 b B hb
  have := h4 hrw o (by omega)
  simpa [World.frozen?, h1] using this

/-! ### slots -/
structure Agrees (n : Nat) (a : Act) (e : Env) : Prop where
  defers : a.defers = e.ds
  size : a.tmps.size = n
  get : ∀ t, a.tmps.getD t undef = e t

def ev (e : Env) : Operand → Value
  | .tmp t => e t
  | .const v => v
  | .global g => .pointer (some ⟨g, 0, none⟩)
  | .func f => .func (.func f) #[] #[]

theorem Agrees.eval {n : Nat} {a : Act} {e : Env} (h : Agrees n a e) : a.eval = ev e := by
  funext x; cases x <;> simp [Act.eval, ev, ← h.get]

theorem Agrees.put {n : Nat} {a : Act} {e : Env} (h : Agrees n a e) {d : Option Nat} (hd : ∀ t, d = some t → t < n) (v : Value) : Agrees n (a.put d v) (e.put d v) := by
  cases d with
  | none => exact h
  | some t =>
    have ht := hd t rfl
    refine ⟨h.defers, by simp [Act.put, h.size], fun s => ?_⟩
    have := h.get s
    have hs := h.size
    by_cases e1 : s = t
    · subst e1; simp [Act.put, Env.put, Env.set, hs, ht]
    · have e2 : ¬ t = s := fun h => e1 h.symm
      simp only [Act.put, Env.put, Env.set, e1, if_false, ← this]
      simp [Array.getD_eq_getD_getElem?, e2]

/-- A mark that keeps simp out of k: simp goes into no argument that a later one's type names. -/
structure Bx {α : Sort u} (k : α) : Type where

/-! ### endings of an operation -/
def CallsW (P : Program) (f : FuncId) (args : Array Value) (H : Mem) (K : Value → Mem → Prop) : Prop :=
  ∀ w, Fits w H → Calls P f args w fun x w' => ∃ v H', x = .returned v ∧ Fits w' H' ∧ K v H'

def NextW (P : Program) (H : Mem) (K : Value → Mem → Prop) : Next → Prop
  | .value v => K v H
  | .skip => K undef H
  | .enter f args => CallsW P f args H K
  | _ => False

/-- An operation that is not read further: whatever memory fits, it runs, and what it comes to is good. -/
def SemW (P : Program) (s : Sem Next) (H : Mem) (K : Value → Mem → Prop) (_x : Bx K := ⟨⟩) : Prop :=
  ∀ w, Fits w H → ∃ nx w' H', s.run P w = .ok nx w' ∧ Fits w' H' ∧ NextW P H' K nx

/-- A call of yield, of the range over a function whose record lies in block l. -/
def YieldW (P : Program) (l : Nat) (args : Array Value) (H : Mem) (K : Value → Mem → Prop) (_x : Bx K := ⟨⟩) : Prop :=
  ∀ w, Fits w H → ∃ f tmps assign body, (Instr.yield l args).run P w = .ok (.round l f tmps assign body) w ∧
    RoundIn Fence.wide 0 P l f tmps assign body w fun x w' => ∃ v H', x = .returned v ∧ Fits w' H' ∧ K v H'

/-- The same of what yields a value. -/
def ValW (P : Program) (s : Sem Value) (H : Mem) (K : Value → Mem → Prop) (_x : Bx K := ⟨⟩) : Prop :=
  ∀ w, Fits w H → ∃ v w' H', s.run P w = .ok v w' ∧ Fits w' H' ∧ K v H'

/-- A call of function f. -/
def InvW (P : Program) (f : FuncId) (args : Array Value) (H : Mem) (K : Value → Mem → Prop) (_x : Bx K := ⟨⟩) : Prop := SemW P (callFunc f args) H K

def CondW (b : Bool) (A B : Prop) (_x : Bx A := ⟨⟩) (_y : Bx B := ⟨⟩) : Prop := (b = true → A) ∧ (b = false → B)
def optK (o : Option Value) (K : Value → Prop) (_x : Bx K := ⟨⟩) : Prop := match o with | some v => K v | none => False
def boolK (v : Value) (K : Bool → Prop) (_x : Bx K := ⟨⟩) : Prop := match v with | .bool b => K b | _ => False
def GuardW (v : Value) (want : Bool) (A B : Prop) (_x : Bx A := ⟨⟩) (_y : Bx B := ⟨⟩) : Prop := match v with | .bool b => CondW (b == want) A B | _ => B

end Go.Proofs.YtgkolnknobgcmaaGreatV
end
section
namespace Go.Proofs.YtgkolnknobgcmaaGreatV

/-! ### types, as the reading needs them -/
def tsz (P : Program) (T : TypeId) : Option Nat := (P.info? T).map (·.size)
def tzero (P : Program) (T : TypeId) : Option (List Value) := (P.info? T).bind fun i => i.zero.map fun z => z.cells.toList
def isAggD : TypeDesc → Bool
  | .struct _ | .array _ _ => true
  | _ => false
def isStr : Option TypeDesc → Bool
  | some .string => true
  | _ => false
/-- A variable's type: is it read as several cells, and how many. -/
def ty (P : Program) (T : TypeId) : Option (Bool × Nat) := (P.underlying T).bind fun d => (tsz P T).map fun n => (isAggD d, n)
/-- A field: where it begins, and its type's `ty`. -/
def fld (P : Program) (T : TypeId) (i : Nat) : Option (Nat × Bool × Nat) :=
  match P.underlying T with
  | some (.struct fs) => (fs[i]?).bind fun f => (ty P f.type).map fun (b, n) => (f.offset, b, n)
  | _ => none
/-- A slice's or an array's elements: (array's length, `ty` of an element) -/
def elt (P : Program) (T : TypeId) : Option (Option Nat × Bool × Nat) :=
  match P.underlying T with
  | some (.slice e) => (ty P e).map fun (b, n) => (none, b, n)
  | some (.array l e) => (ty P e).map fun (b, n) => (some l, b, n)
  | _ => none

/-! ### pure operations -/
def bitI (op : BinOp) (k : IntKind) (a b : Int) : Int :=
  let x := BitVec.ofInt k.bits a
  let y := BitVec.ofInt k.bits b
  k.wrap (match op with | .and => x &&& y | .or => x ||| y | .xor => x ^^^ y | _ => x &&& ~~~y).toNat
def binI (op : BinOp) (k : IntKind) (a : Int) (k' : IntKind) (b : Int) : Option Value :=
  match op with
  | .shl => if b < 0 then none else some (.int k (k.wrap (a * 2 ^ (min b.toNat k.bits))))
  | .shr => if b < 0 then none else some (.int k (a.fdiv (2 ^ (min b.toNat k.bits))))
  | op => if k = k' then
      match op with
      | .add => some (.int k (k.wrap (a + b)))
      | .sub => some (.int k (k.wrap (a - b)))
      | .mul => some (.int k (k.wrap (a * b)))
      | .quo => if b = 0 then none else some (.int k (k.wrap (a.tdiv b)))
      | .rem => if b = 0 then none else some (.int k (a.tmod b))
      | .and => some (.int k (bitI .and k a b))
      | .or => some (.int k (bitI .or k a b))
      | .xor => some (.int k (bitI .xor k a b))
      | .andNot => some (.int k (bitI .andNot k a b))
      | .eql => some (.bool (a == b))
      | .neq => some (.bool (a != b))
      | .lss => some (.bool (decide (a < b)))
      | .leq => some (.bool (decide (a ≤ b)))
      | .gtr => some (.bool (decide (b < a)))
      | .geq => some (.bool (decide (b ≤ a)))
      | _ => none
    else none
def binS (op : BinOp) (s t : ByteArray) : Option Value :=
  match op with
  | .add => if (s.size + t.size : Int) ≤ 9223372036854775807 then some (.string (s ++ t)) else none
  | .eql => some (.bool (decide (s = t)))
  | .neq => some (.bool (!decide (s = t)))
  | .lss => some (.bool (Op.bytesLess s.toList t.toList))
  | .leq => some (.bool (Op.bytesLess s.toList t.toList || decide (s = t)))
  | .gtr => some (.bool (!(Op.bytesLess s.toList t.toList || decide (s = t))))
  | .geq => some (.bool (!Op.bytesLess s.toList t.toList))
  | _ => none
def bin (P : Program) (op : BinOp) (T : TypeId) (x y : Value) : Option Value :=
  match x, y with
  | .int k a, .int k' b => binI op k a k' b
  | .string s, .string t => binS op s t
  | .bool a, .bool b => match op, P.underlying T with | .eql, some .bool => some (.bool (a == b)) | .neq, some .bool => some (.bool (!(a == b))) | _, _ => none
  | .pointer a, .pointer none => match op, P.underlying T with | .eql, some (.pointer _) => some (.bool a.isNone) | .neq, some (.pointer _) => some (.bool (!a.isNone)) | _, _ => none
  | _, _ => none
def un (op : UnOp) (x : Value) : Option Value :=
  match op, x with
  | .not, .bool b => some (.bool (!b))
  | .neg, .int k n => some (.int k (k.wrap (0 - n)))
  | _, _ => none
def conv (s d : Option TypeDesc) (x : Value) : Option Value :=
  match s, d, x with
  | some _, some (.int k), .int _ n => some (.int k (k.wrap n))
  | some _, some .string, .string s => some (.string s)
  | _, _, _ => none
/-- A part of an aggregate's cells. -/
def partV (cs : List Value) (off : Nat) (b : Bool) (n : Nat) : Option Value :=
  if b then some (.agg ((cs.drop off).take n).toArray) else cs[off]?
/-- The byte at a place of a string (0 beyond). -/
def byteAt (s : ByteArray) (i : Nat) : Int := (s.data.toList[i]?.getD 0).toNat
def idx (P : Program) (T : TypeId) (x i : Value) : Option Value :=
  match x, i with
  | .string s, .int _ i => if isStr (P.underlying T) = true ∧ 0 ≤ i ∧ i < s.size then some (.int .u8 (byteAt s i.toNat)) else none
  | .agg cs, .int _ i => match elt P T with
    | some (some l, b, n) => if 0 ≤ i ∧ i < l then partV cs.toList (i.toNat * n) b n else none
    | _ => none
  | _, _ => none
def idxA (P : Program) (T : TypeId) (x i : Value) : Option Value :=
  match x, i with
  | .slice (some a) len _, .int _ i => match elt P T with
    | some (none, _, n) => if 0 ≤ i ∧ i < len then some (.pointer (some (a.add (i.toNat * n)))) else none
    | _ => none
  | .pointer (some a), .int _ i => match elt P T with
    | some (some l, _, n) => if 0 ≤ i ∧ i < l then some (.pointer (some (a.add (i.toNat * n)))) else none
    | _ => none
  | _, _ => none
def intOf? : Option Value → Option (Option Int)
  | none => some none
  | some (.int _ i) => some (some i)
  | _ => none
def slc (P : Program) (T : TypeId) (x : Value) (lo hi : Option Value) : Option Value :=
  match x, intOf? lo, intOf? hi with
  | .string s, some lo, some hi =>
    let l := lo.getD 0
    let h := hi.getD s.size
    if isStr (P.underlying T) = true ∧ 0 ≤ l ∧ l ≤ h ∧ h ≤ s.size then some (.string (s.extract l.toNat h.toNat)) else none
  | .slice a len cap, some lo, some hi =>
    let l := lo.getD 0
    let h := hi.getD len
    match elt P T with
    | some (none, _, n) => if 0 ≤ l ∧ l ≤ h ∧ h ≤ cap then some (.slice (if cap = l.toNat then a else a.map (·.add (l.toNat * n))) (h.toNat - l.toNat) (cap - l.toNat)) else none
    | _ => none
  | _, _, _ => none
def lenV (P : Program) (T : TypeId) (x : Value) : Option Value :=
  match P.underlying T, x with
  | some .string, .string s => some (.int .i64 s.size)
  | some (.slice _), .slice _ n _ => some (.int .i64 n)
  | some (.array n _), _ => some (.int .i64 n)
  | _, _ => none
def fadr (P : Program) (T : TypeId) (x : Value) (i : Nat) : Option Value :=
  match x, fld P T i with
  | .pointer (some a), some (off, _, n) => if n = 0 then none else some (.pointer (some (a.add off)))
  | _, _ => none
def fval (P : Program) (T : TypeId) (x : Value) (i : Nat) : Option Value :=
  match x, fld P T i with
  | .agg cs, some (off, b, n) => if off + n ≤ cs.size then partV cs.toList off b n else none
  | _, _ => none
def extr (x : Value) (i : Nat) : Option Value :=
  match x with
  | .tuple vs => vs.toList[i]?
  | _ => none
def nilc (x : Value) : Option Value :=
  match x with
  | .pointer (some a) => some (.pointer (some a))
  | .func (.func f) a b => some (.func (.func f) a b)
  | _ => none
/-- Cells from a place on are replaced. -/
def splice (cs : List Value) (o : Nat) (vs : List Value) : List Value := cs.take o ++ vs ++ cs.drop (o + vs.length)
def fillL (place : Nat → Option (Nat × Nat)) : List Value → List (Nat × Value) → Option (List Value)
  | cs, [] => some cs
  | cs, (i, v) :: r =>
    match place i with
    | none => none
    | some (off, n) => if v.cells.size = n ∧ off + n ≤ cs.length then fillL place (splice cs off v.cells.toList) r else none
/-- All fields of a struct: where each begins, how many cells it has. -/
def flds (P : Program) (T : TypeId) : Option (List (Nat × Nat)) :=
  match P.underlying T with
  | some (.struct fs) => if fs.toList.all (fun f => (tsz P f.type).isSome) then some (fs.toList.map fun f => (f.offset, (tsz P f.type).getD 0)) else none
  | _ => none
def bld (P : Program) (T : TypeId) (parts : List (Nat × Value)) : Option Value :=
  match flds P T, elt P T, tzero P T with
  | some l, _, some z => (fillL (fun i => l[i]?) z parts).map fun cs => .agg cs.toArray
  | none, some (some _, _, n), some z => (fillL (fun i => some (i * n, n)) z parts).map fun cs => .agg cs.toArray
  | _, _, _ => none
def minmax (mx : Bool) : List Value → Option Value
  | [.int k a, .int _ b] => some (.int k (if mx then (if a < b then b else a) else (if b < a then b else a)))
  | _ => none

/-! ### memory -/
def Blk.read (B : Blk) (o n : Nat) : Option (List Value) := if o + n ≤ B.cs.length then some ((B.cs.drop o).take n) else none
def Mem.read (H : Mem) (a : Addr) (n : Nat) : Option (List Value) :=
  match a.spot with
  | none => (H a.block).bind fun B => B.read a.off n
  | some _ => none
def one (v : Value) : Bool := match v with | .agg _ | .tuple _ => false | _ => true
def Blk.write (B : Blk) (o : Nat) (vs : List Value) : Option Blk := if B.rw = true ∧ o + vs.length ≤ B.cs.length ∧ o + vs.length ≤ B.room then some { B with cs := splice B.cs o vs } else none
def Mem.write (H : Mem) (a : Addr) (vs : List Value) : Option Mem :=
  match a.spot with
  | none => (H a.block).bind fun B => (B.write a.off vs).map fun B' => H.upd a.block B'
  | some _ => none
def readK (o : Option (List Value)) (b : Bool) (K : Value → Prop) (_x : Bx K := ⟨⟩) : Prop :=
  match o with
  | some vs => if b then K (.agg vs.toArray) else match vs with | [v] => K v | _ => False
  | none => False
def memK (o : Option Mem) (K : Mem → Prop) (_x : Bx K := ⟨⟩) : Prop := match o with | some H => K H | none => False
/-- A new block. -/
def NewW (H : Mem) (K : Nat → Prop) (_x : Bx K := ⟨⟩) : Prop := ∀ n, H n = none → K n
def zerosL (z : List Value) : Nat → List Value
  | 0 => []
  | n + 1 => z ++ zerosL z n

def elseK (o : Option Value) (K : Value → Prop) (F : Prop) (_x : Bx K := ⟨⟩) (_y : Bx F := ⟨⟩) : Prop := match o with | some v => K v | none => F

def funK (P : Program) (f : Value) (as : Array Value) (H : Mem) (K : Value → Mem → Prop) (F : Prop) (_x : Bx K := ⟨⟩) (_y : Bx F := ⟨⟩) : Prop :=
  match f with
  | .func (.func g) first captured => InvW P g (first ++ as ++ captured) H K
  | .func (.yield l) first _ => YieldW P l (first ++ as) H K
  | _ => F
def loadW (H : Mem) (t : Option (Bool × Nat)) (a : Value) (K : Value → Prop) (_x : Bx K := ⟨⟩) : Prop :=
  match t, a with
  | some (b, n), .pointer (some ad) => readK (H.read ad n) b K
  | _, _ => False
def storeW (H : Mem) (t : Option (Bool × Nat)) (a v : Value) (K : Mem → Prop) (_x : Bx K := ⟨⟩) : Prop :=
  match t, a with
  | some (_, n), .pointer (some ad) => v.cells.size = n ∧ v.cells.toList.all one = true ∧ memK (H.write ad v.cells.toList) K
  | _, _ => False
def allocW (H : Mem) (z : Option (List Value)) (K : Nat → List Value → Prop) (_x : Bx K := ⟨⟩) : Prop :=
  match z with
  | some z => NewW H fun n => K n z
  | none => False
def opW (P : Program) (e : Env) (H : Mem) (o : Oper) (K : Value → Mem → Prop) (_x : Bx K := ⟨⟩) : Prop :=
  match o.op with
  | .move x | .assign x => K (ev e x) H
  | .pick c a b => boolK (ev e c) fun t => K (if t then ev e a else ev e b) H
  | .binOp op T x y U => elseK (bin P op T (ev e x) (ev e y)) (fun v => K v H) (SemW P (execOp (ev e) { o with op := .binOp op T x y U }) H K)
  | .unOp op _ x => optK (un op (ev e x)) fun v => K v H
  | .convert s d x => elseK (conv (P.underlying s) (P.underlying d) (ev e x)) (fun v => K v H) (ValW P (convert s d (ev e x)) H K)
  | .index T x i => optK (idx P T (ev e x) (ev e i)) fun v => K v H
  | .indexAddr T x i => optK (idxA P T (ev e x) (ev e i)) fun v => K v H
  | .slice T x lo hi none => elseK (slc P T (ev e x) (lo.map (ev e)) (hi.map (ev e))) (fun v => K v H) (ValW P (Instr.sliceAt T (ev e x) (lo.map (ev e)) (hi.map (ev e)) none) H K)
  | .fieldAddr T x i => optK (fadr P T (ev e x) i) fun v => K v H
  | .field T x i => optK (fval P T (ev e x) i) fun v => K v H
  | .extract x i => optK (extr (ev e x) i) fun v => K v H
  | .nilCheck x => optK (nilc (ev e x)) fun v => K v H
  | .makeFunc fn first captured => K (.func fn (first.map (ev e)) (captured.map (ev e))) H
  | .build T parts => optK (bld P T (parts.toList.map fun (i, x) => (i, ev e x))) fun v => K v H
  | .load T a => loadW H (ty P T) (ev e a) fun v => K v H
  | .store T a x => storeW H (ty P T) (ev e a) (ev e x) fun H' => K undef H'
  | .box _ x => NewW H fun n => K (.pointer (some ⟨n, 0, none⟩)) (H.upd n ⟨true, (ev e x).cells.size, (ev e x).cells.toList⟩)
  | .alloc T => allocW H (tzero P T) fun n z => K (.pointer (some ⟨n, 0, none⟩)) (H.upd n ⟨true, z.length, z⟩)
  | .call { callee := .value f, args := as, argTypes := ts } => funK P (ev e f) (as.map (ev e)) H K (SemW P (execOp (ev e) { o with op := .call { callee := .value f, args := as, argTypes := ts } }) H K)
  | .call { callee := .builtin .len, args := as, argTypes := ts } => match as.toList, ts.toList with
    | [x], [T] => optK (lenV P T (ev e x)) fun v => K v H
    | _, _ => False
  | .call { callee := .builtin .min, args := as, argTypes := _ } => optK (minmax false (as.toList.map (ev e))) fun v => K v H
  | .call { callee := .builtin .max, args := as, argTypes := _ } => optK (minmax true (as.toList.map (ev e))) fun v => K v H
  | op => SemW P (execOp (ev e) { o with op := op }) H K

end Go.Proofs.YtgkolnknobgcmaaGreatV
end
section
namespace Go.Proofs.YtgkolnknobgcmaaGreatV
open Go

section
variable {P : Program} {w : World}

theorem run_tsz {T : TypeId} {n : Nat} (h : tsz P T = some n) : (sizeOf T).run P w = .ok n w := by
  unfold tsz at h
  cases hi : P.info? T with
  | none => simp [hi] at h
  | some i => simp [hi] at h; subst h; simp [sizeOf, typeInfo, program, Sem.run, hi]
theorem run_und {T : TypeId} {d : TypeDesc} (h : P.underlying T = some d) : (underlying T).run P w = .ok d w := by
  simp [underlying, program, Sem.run, h]
theorem run_tzero {T : TypeId} {z : List Value} (h : tzero P T = some z) : ∃ v, (zeroValue T).run P w = .ok v w ∧ v.cells.toList = z := by
  unfold tzero at h
  cases hi : P.info? T with
  | none => simp [hi] at h
  | some i =>
    simp only [hi, Option.bind_some] at h
    cases hz : i.zero with
    | none => simp [hz] at h
    | some v => simp [hz] at h; exact ⟨v, by simp [zeroValue, typeInfo, program, Sem.run, hi, hz], h⟩
theorem ty_parts {T : TypeId} {b : Bool} {n : Nat} (h : ty P T = some (b, n)) : ∃ d, P.underlying T = some d ∧ tsz P T = some n ∧ isAggD d = b := by
  unfold ty at h
  cases hu : P.underlying T with
  | none => simp [hu] at h
  | some d =>
    simp only [hu, Option.bind_some] at h
    cases ht : tsz P T with
    | none => simp [ht] at h
    | some m => simp [ht] at h; exact ⟨d, rfl, by rw [h.2], h.1⟩
theorem run_isAgg {T : TypeId} {d : TypeDesc} (h : P.underlying T = some d) : (isAgg T).run P w = .ok (isAggD d) w := by
  simp only [isAgg, Sem.run_bind, run_und h, Result.andThen_ok]
  cases d <;> simp [isAggD]

theorem run_eqGuard (op : BinOp) (T : TypeId) (x y : Operand) {a b : Value} (ha : a ≠ .nilIface) (hb : ∀ c, a ≠ .agg c) : (eqGuard op T x y a b).run P w = .ok () w := by
  unfold eqGuard
  cases op <;> simp <;> (cases a <;> simp_all)

theorem run_binI {op : BinOp} {T : TypeId} {k k' : IntKind} {a b : Int} {v : Value} (h : binI op k a k' b = some v) : (binOp op T (.int k a) (.int k' b)).run P w = .ok v w := by
  unfold binI at h
  cases op <;> simp only at h <;> simp only [binOp]
  case shl =>
    split at h
    · cases h
    · rename_i hb; simp only [Option.some.injEq] at h; subst h; simp only [Op.shift]; rw [if_neg hb]; rfl
  case shr =>
    split at h
    · cases h
    · rename_i hb; simp only [Option.some.injEq] at h; subst h; simp only [Op.shift]; rw [if_neg hb]; rfl
  all_goals
    split at h
    · rename_i hk; subst hk
      first
      | (split at h; (cases h); skip)
      | skip
      first
      | (simp only [Option.some.injEq] at h; subst h; simp [Op.intArith, Op.intBits, Op.intCmp, bitI, GE.ge, GT.gt]; done)
      | (simp only [Option.some.injEq] at h; subst h; rename_i hz; simp [Op.intDiv, hz]; done)
      | cases h
    · cases h
theorem barr_eq (s t : ByteArray) : (s.toList == t.toList) = decide (s = t) := by
  rw [Bool.eq_iff_iff]
  simp only [beq_iff_eq, decide_eq_true_eq]
  constructor
  · intro h
    have : s.data.toList = t.data.toList := by
      rw [← ByteArray.toList_eq s, ← ByteArray.toList_eq t]; exact h
    cases s; cases t; simp at this; simp [this]
  · rintro rfl; rfl

theorem run_binS {op : BinOp} {T : TypeId} {s t : ByteArray} {v : Value} (h : binS op s t = some v) : (binOp op T (.string s) (.string t)).run P w = .ok v w := by
  have hb := barr_eq s t
  unfold binS at h
  cases op <;> simp only [Option.some.injEq, reduceCtorEq] at h <;> (try subst h) <;> simp only [binOp, Op.stringOp, hb]
  case add =>
    split at h
    · rename_i hle
      simp at h; subst h
      rw [if_neg (by simp only [IntKind.max, IntKind.bits, IntKind.signed, gt_iff_lt]; simp; omega)]; rfl
    · cases h
  all_goals simp

theorem run_equalIn_bool (d : Nat) {T : TypeId} (hu : P.underlying T = some .bool) (a b : Bool) : (Op.equalIn (d + 1) T (.bool a) (.bool b)).run P w = .ok (a == b) w := by
  rw [Op.equalIn]
  simp only [Sem.run_bind, run_und hu, Result.andThen_ok]; rfl
theorem run_equalIn_nil (d : Nat) {T e : TypeId} (hu : P.underlying T = some (.pointer e)) (a : Option Addr) : (Op.equalIn (d + 1) T (.pointer a) (.pointer none)).run P w = .ok a.isNone w := by
  rw [Op.equalIn]
  cases a <;> (simp only [Sem.run_bind, run_und hu, Result.andThen_ok]; rfl)
theorem run_equal_bool {T : TypeId} (hu : P.underlying T = some .bool) (a b : Bool) : (Op.equal T (.bool a) (.bool b)).run P w = .ok (a == b) w := run_equalIn_bool 9999 hu a b
theorem run_equal_nil {T e : TypeId} (hu : P.underlying T = some (.pointer e)) (a : Option Addr) : (Op.equal T (.pointer a) (.pointer none)).run P w = .ok a.isNone w := run_equalIn_nil 9999 hu a

theorem run_bin {op : BinOp} {T : TypeId} {x y : Value} {v : Value} (h : bin P op T x y = some v) (o1 o2 : Operand) :
    (do eqGuard op T o1 o2 x y; binOp op T x y : Sem Value).run P w = .ok v w := by
  unfold bin at h
  split at h
  · simp only [Sem.run_bind, run_eqGuard op T o1 o2 (a := .int _ _) (by simp) (by simp), Result.andThen_ok]; exact run_binI h
  · simp only [Sem.run_bind, run_eqGuard op T o1 o2 (a := .string _) (by simp) (by simp), Result.andThen_ok]; exact run_binS h
  · simp only [Sem.run_bind, run_eqGuard op T o1 o2 (a := .bool _) (by simp) (by simp), Result.andThen_ok]
    split at h
    · rename_i hu; simp only [Option.some.injEq] at h; subst h; simp only [binOp, Sem.run_bind, run_equal_bool hu, Result.andThen_ok, Sem.run_pure]
    · rename_i hu; simp only [Option.some.injEq] at h; subst h; simp only [binOp, Sem.run_bind, run_equal_bool hu, Result.andThen_ok, Sem.run_pure]
    · cases h
  · rename_i a
    simp only [Sem.run_bind, run_eqGuard op T o1 o2 (a := .pointer _) (by simp) (by simp), Result.andThen_ok]
    split at h
    · rename_i hu; simp only [Option.some.injEq] at h; subst h; simp only [binOp, Sem.run_bind, run_equal_nil hu, Result.andThen_ok, Sem.run_pure]
    · rename_i hu; simp only [Option.some.injEq] at h; subst h; simp only [binOp, Sem.run_bind, run_equal_nil hu, Result.andThen_ok, Sem.run_pure]
    · cases h
  · cases h

theorem run_un {op : UnOp} {x v : Value} (h : un op x = some v) : (Op.unary op x).run P w = .ok v w := by
  unfold un at h
  split at h
  · simp at h; subst h; rfl
  · simp at h; subst h; simp [Op.unary, Op.intArith]
  · cases h

theorem run_conv {s d : TypeId} {x v : Value} (h : conv (P.underlying s) (P.underlying d) x = some v) : (convert s d x).run P w = .ok v w := by
  unfold conv at h
  split at h
  · rename_i h1 h2; simp at h; subst h; simp [convert, run_und h1, run_und h2, Conv.intToInt]
  · rename_i h1 h2; simp at h; subst h; simp [convert, run_und h1, run_und h2]
  · cases h

theorem run_part {T : TypeId} {cs : Array Value} {off : Nat} {b : Bool} {n : Nat} {v : Value} (ht : ty P T = some (b, n)) (h : partV cs.toList off b n = some v) : (part T cs off).run P w = .ok v w := by
  obtain ⟨d, h1, h2, h3⟩ := ty_parts ht
  simp only [part, Sem.run_bind, run_isAgg h1, h3, Result.andThen_ok]
  unfold partV at h
  cases b
  · simp at h; simp [h]
  · simp at h; subst h; simp [run_tsz h2, List.extract_eq_take_drop, ← Array.toList_inj]

theorem byteAt_get (s : ByteArray) (i : Nat) (h : i < s.size) : byteAt s i = (s[i]'h).toNat := by
  unfold byteAt
  rw [Array.getElem?_toList]
  have : s.data[i]? = some (s.data[i]'h) := Array.getElem?_eq_getElem h
  rw [this]; rfl

theorem elt_arr {T : TypeId} {l : Nat} {b : Bool} {n : Nat} (h : elt P T = some (some l, b, n)) : ∃ e, P.underlying T = some (.array l e) ∧ ty P e = some (b, n) := by
  unfold elt at h
  split at h
  · rename_i e hu; cases ht : ty P e <;> simp [ht] at h
  · rename_i l' e hu
    cases ht : ty P e with
    | none => simp [ht] at h
    | some p => obtain ⟨b', n'⟩ := p; simp [ht] at h; obtain ⟨rfl, rfl, rfl⟩ := h; exact ⟨e, hu, ht⟩
  · cases h
theorem elt_sl {T : TypeId} {b : Bool} {n : Nat} (h : elt P T = some (none, b, n)) : ∃ e, P.underlying T = some (.slice e) ∧ ty P e = some (b, n) := by
  unfold elt at h
  split at h
  · rename_i e hu
    cases ht : ty P e with
    | none => simp [ht] at h
    | some p => obtain ⟨b', n'⟩ := p; simp [ht] at h; obtain ⟨rfl, rfl⟩ := h; exact ⟨e, hu, ht⟩
  · rename_i l' e hu; cases ht : ty P e <;> simp [ht] at h
  · cases h
theorem isStr_und {d : Option TypeDesc} (h : isStr d = true) : d = some .string := by
  unfold isStr at h; split at h <;> simp_all

theorem run_idx {T : TypeId} {x i v : Value} (h : idx P T x i = some v) : (Instr.index T x i).run P w = .ok v w := by
  unfold idx at h
  split at h
  · rename_i s k j
    split at h
    · rename_i hc; obtain ⟨h1, h2, h3⟩ := hc
      simp at h; subst h
      have hj : j.toNat < s.size := by omega
      simp only [Instr.index, asIntOf, Sem.run_bind, Sem.run_pure, Result.andThen_ok, run_und (isStr_und h1), h2, if_true]
      have : s[j.toNat]? = some (s[j.toNat]'hj) := getElem?_pos s j.toNat hj
      simp [this, byteAt_get s _ hj]
    · cases h
  · rename_i cs k j
    split at h
    · rename_i l b n he
      split at h
      · rename_i hc
        obtain ⟨e, hu, ht⟩ := elt_arr he
        obtain ⟨d, h1, h2, h3⟩ := ty_parts ht
        simp only [Instr.index, asIntOf, Sem.run_bind, Sem.run_pure, Result.andThen_ok, run_und hu]
        rw [if_pos hc]
        simp only [Sem.run_bind, run_tsz h2, Result.andThen_ok]
        exact run_part ht h
      · cases h
    · cases h
  · cases h

theorem run_idxA {T : TypeId} {x i v : Value} (h : idxA P T x i = some v) : (Instr.indexAt T x i).run P w = .ok v w := by
  unfold idxA at h
  split at h
  · rename_i a len c k j
    split at h
    · rename_i b n he
      split at h
      · rename_i hc
        obtain ⟨e, hu, ht⟩ := elt_sl he
        obtain ⟨d, h1, h2, h3⟩ := ty_parts ht
        simp at h; subst h
        simp only [Instr.indexAt, asIntOf, Sem.run_bind, Sem.run_pure, Result.andThen_ok, run_und hu]
        rw [if_pos hc]; simp [run_tsz h2]
      · cases h
    · cases h
  · rename_i a k j
    split at h
    · rename_i l b n he
      split at h
      · rename_i hc
        obtain ⟨e, hu, ht⟩ := elt_arr he
        obtain ⟨d, h1, h2, h3⟩ := ty_parts ht
        simp at h; subst h
        simp only [Instr.indexAt, asIntOf, Instr.sureAddr, Sem.run_bind, Sem.run_pure, Result.andThen_ok, run_und hu]
        rw [if_pos hc]; simp [run_tsz h2]
      · cases h
    · cases h
  · cases h

theorem run_len {T U : TypeId} {x v : Value} (h : lenV P T x = some v) : (Builtin.len_ #[T] U #[x]).run P w = .ok v w := by
  unfold lenV at h
  split at h
  · rename_i hu; simp at h; subst h; simp [Builtin.len_, run_und hu, goInt]
  · rename_i hu; simp at h; subst h; simp [Builtin.len_, run_und hu, goInt]
  · rename_i hu; simp at h; subst h; simp [Builtin.len_, run_und hu, goInt]
  · cases h

theorem fld_parts {T : TypeId} {i off : Nat} {b : Bool} {n : Nat} (h : fld P T i = some (off, b, n)) : ∃ fs f, P.underlying T = some (.struct fs) ∧ fs[i]? = some f ∧ f.offset = off ∧ ty P f.type = some (b, n) := by
  unfold fld at h
  split at h
  · rename_i fs hu
    cases hf : fs[i]? with
    | none => simp [hf] at h
    | some f =>
      simp only [hf, Option.bind_some] at h
      cases ht : ty P f.type with
      | none => simp [ht] at h
      | some p => obtain ⟨b', n'⟩ := p; simp [ht] at h; exact ⟨fs, f, hu, hf, h.1, by rw [ht, h.2.1, h.2.2]⟩
  · cases h

theorem run_fadr {T : TypeId} {x v : Value} {i : Nat} (h : fadr P T x i = some v) : (Instr.fieldAt T x i).run P w = .ok v w := by
  unfold fadr at h
  split at h
  · rename_i a off b n hf
    obtain ⟨fs, f, hu, hi, rfl, ht⟩ := fld_parts hf
    obtain ⟨d, h1, h2, h3⟩ := ty_parts ht
    split at h
    · cases h
    · rename_i hn
      simp at h; subst h
      simp [Instr.fieldAt, run_und hu, hi, Instr.sureAddr, fieldPlace, run_tsz h2, hn]
  · cases h

theorem run_fval {T : TypeId} {x v : Value} {i : Nat} (h : fval P T x i = some v) : (Instr.field T x i).run P w = .ok v w := by
  unfold fval at h
  split at h
  · rename_i cs off b n hf
    obtain ⟨fs, f, hu, hi, rfl, ht⟩ := fld_parts hf
    split at h
    · simp only [Instr.field, Sem.run_bind, run_und hu, Result.andThen_ok, hi, asAgg, Sem.run_pure]
      exact run_part ht h
    · cases h
  · cases h

theorem run_extr {x v : Value} {i : Nat} (h : extr x i = some v) : (Instr.extract x i).run P w = .ok v w := by
  unfold extr at h
  split at h
  · rename_i vs; simp at h; simp [Instr.extract, h]
  · cases h

theorem run_minmax {mx : Bool} {ts : Array TypeId} {U : TypeId} {vs : List Value} {v : Value} (h : minmax mx vs = some v) : ((if mx then Builtin.max_ ts U vs.toArray else Builtin.min_ ts U vs.toArray) : Sem Value).run P w = .ok v w := by
  unfold minmax at h
  split at h
  · simp at h; subst h
    cases mx <;> simp [Builtin.max_, Builtin.min_, Builtin.max2, Builtin.min2]
  · cases h
end
end Go.Proofs.YtgkolnknobgcmaaGreatV
end
section
namespace Go.Proofs.YtgkolnknobgcmaaGreatV
open Go

section
variable {P : Program} {w : World} {H : Mem}

theorem add_none (b o n : Nat) : (⟨b, o, none⟩ : Addr).add n = ⟨b, o + n, none⟩ := by
  unfold Addr.add; split
  · rename_i h; subst h; rfl
  · rfl

theorem run_loadCells_known (hw : Fits w H) {b : Nat} {B : Blk} (hb : H b = some B) (o : Nat) : ∀ (n i : Nat) (acc : Array Value), o + i + n ≤ B.cs.length →
    (loadCellsFrom ⟨b, o, none⟩ i n acc).run P w = .ok (acc ++ ((B.cs.drop (o + i)).take n).toArray) w := by
  intro n
  induction n with
  | zero => intro i acc _; simp [loadCellsFrom]
  | succ n ih =>
    intro i acc h
    have hlt : o + i < B.cs.length := by omega
    have hc := hw.cell hb (o := o + i) (v := B.cs[o + i]) (by simp [hlt])
    have hl : (load (⟨b, o + i, none⟩ : Addr)).run P w = .ok B.cs[o + i] w := by simp [load, Sem.run, hc]
    simp only [loadCellsFrom, add_none, Sem.run_bind, hl, Result.andThen_ok]
    rw [ih (i + 1) _ (by omega)]
    congr 1
    rw [show o + (i + 1) = o + i + 1 from by omega]
    rw [List.drop_eq_getElem_cons hlt, List.take_succ_cons]
    simp

theorem read_parts {a : Addr} {n : Nat} {vs : List Value} (h : H.read a n = some vs) : ∃ b o B, a = ⟨b, o, none⟩ ∧ H b = some B ∧ o + n ≤ B.cs.length ∧ vs = (B.cs.drop o).take n := by
  obtain ⟨b, o, s⟩ := a
  unfold Mem.read at h
  cases s with
  | some _ => simp at h
  | none =>
    simp only at h
    cases hb : H b with
    | none => simp [hb] at h
    | some B =>
      simp only [hb, Option.bind_some, Blk.read] at h
      split at h
      · simp at h; exact ⟨b, o, B, rfl, hb, by assumption, h.symm⟩
      · cases h

theorem run_loadCells_read (hw : Fits w H) {a : Addr} {n : Nat} {vs : List Value} (h : H.read a n = some vs) : (loadCells a n).run P w = .ok vs.toArray w := by
  obtain ⟨b, o, B, rfl, hb, hle, rfl⟩ := read_parts h
  unfold loadCells
  rw [run_loadCells_known hw hb o n 0 #[] (by omega)]
  simp

theorem run_load_read (hw : Fits w H) {a : Addr} {v : Value} (h : H.read a 1 = some [v]) : (load a).run P w = .ok v w := by
  obtain ⟨b, o, B, rfl, hb, hle, hv⟩ := read_parts h
  have hlt : o < B.cs.length := by omega
  have : B.cs[o]? = some v := by
    rw [List.drop_eq_getElem_cons hlt, List.take_succ_cons] at hv
    simp only [List.cons.injEq] at hv
    rw [List.getElem?_eq_getElem hlt, hv.1]
  have hc := hw.cell hb this
  simp [load, Sem.run, hc]

theorem read_length {a : Addr} {n : Nat} {vs : List Value} (h : H.read a n = some vs) : vs.length = n := by
  obtain ⟨b, o, B, rfl, hb, hle, rfl⟩ := read_parts h
  simp; omega

theorem run_loadAt (hw : Fits w H) {T : TypeId} {b : Bool} {n : Nat} (ht : ty P T = some (b, n)) {a : Addr} {K : Value → Prop} (h : readK (H.read a n) b K) :
    ∃ v, (Instr.loadAt T (.pointer (some a))).run P w = .ok v w ∧ K v := by
  obtain ⟨d, h1, h2, h3⟩ := ty_parts ht
  cases hr : H.read a n with
  | none => simp [hr, readK] at h
  | some vs =>
    simp only [hr, readK] at h
    simp only [Instr.loadAt, Instr.sureAddr, Sem.run_bind, Sem.run_pure, Result.andThen_ok, loadVar, run_isAgg h1, h3]
    cases b
    · simp only [Bool.false_eq_true, if_false] at h ⊢
      match vs, h, hr with
      | [v], h, hr =>
        have hn : n = 1 := by have := read_length hr; simpa using this.symm
        subst hn
        exact ⟨v, run_load_read hw hr, h⟩
    · simp only [if_true] at h ⊢
      exact ⟨.agg vs.toArray, by simp [run_tsz h2, run_loadCells_read hw hr], h⟩

theorem upd_same (b : Nat) (B B' : Blk) : (H.upd b B).upd b B' = H.upd b B' := by
  simp only [Mem.upd, Mem.mk.injEq, and_true]; funext c; split <;> rfl
theorem upd_get (b : Nat) (B : Blk) : (H.upd b B) b = some B := by simp [Mem.upd]

theorem splice_step {cs : List Value} {k : Nat} (hlt : k < cs.length) (v : Value) (vs : List Value) : splice (cs.set k v) (k + 1) vs = splice cs k (v :: vs) := by
  unfold splice
  rw [List.take_set, List.take_succ_eq_append_getElem hlt, List.drop_set_of_lt (by omega), List.set_append_right _ _ (by simp; omega)]
  simp only [List.length_cons, List.length_take, Nat.min_eq_left (Nat.le_of_lt hlt), Nat.sub_self, List.set_cons_zero]
  rw [show k + 1 + vs.length = k + (vs.length + 1) from by omega]
  simp

theorem run_storeCells (vs : List Value) : ∀ (i : Nat) (w : World) (H : Mem) {b o : Nat} {B : Blk}, Fits w H → H b = some B → B.rw = true → o + i + vs.length ≤ B.cs.length → o + i + vs.length ≤ B.room → vs.all one = true →
    ∃ w', (storeCells ⟨b, o, none⟩ vs i).run P w = .ok () w' ∧ Fits w' (H.upd b { B with cs := splice B.cs (o + i) vs }) := by
  induction vs with
  | nil =>
    intro i w H b o B hw hb _ _ _ _
    refine ⟨w, by simp [storeCells], ?_⟩
    have : H.upd b { B with cs := splice B.cs (o + i) [] } = H := by
      obtain ⟨Hc, Ho, Hk, Hp⟩ := H
      simp only [Mem.upd, Mem.mk.injEq, and_true]
      funext c; simp only [splice]
      split
      · rename_i e; subst e; simp only at hb; simp [hb]
      · rfl
    rw [this]; exact hw
  | cons v vs ih =>
    intro i w H b o B hw hb hrw hle hroom h1
    simp only [List.length_cons] at hle hroom
    simp only [List.all_cons, Bool.and_eq_true] at h1
    have hlt : o + i < B.cs.length := by omega
    have hc := hw.cell hb (o := o + i) (v := B.cs[o + i]) (by simp [hlt])
    have hf := hw.frozen hb hrw (o := o + i) (by omega)
    have hs : (store (⟨b, o + i, none⟩ : Addr) v).run P w = .ok () (w.setCell ⟨b, o + i, none⟩ v) := by
      unfold store
      have : one v = true := h1.1
      cases v <;> simp [one] at this <;> simp [Sem.run, hc, hf]
    obtain ⟨w', hr, hf'⟩ := ih (i + 1) (w.setCell ⟨b, o + i, none⟩ v) (H.upd b { B with cs := B.cs.set (o + i) v }) (b := b) (o := o) (B := { B with cs := B.cs.set (o + i) v })
      (hw.setCell hb hrw v) (upd_get _ _) hrw (by simp; omega) (by simp; omega) h1.2
    refine ⟨w', by simp only [storeCells, add_none, Sem.run_bind, hs, Result.andThen_ok, hr], ?_⟩
    rw [upd_same] at hf'
    have : splice (B.cs.set (o + i) v) (o + (i + 1)) vs = splice B.cs (o + i) (v :: vs) := splice_step hlt v vs
    simpa [this] using hf'

theorem run_storeAt (hw : Fits w H) {T : TypeId} {b : Bool} {n : Nat} (ht : ty P T = some (b, n)) {a : Addr} {v : Value} {K : Mem → Prop} (hn : v.cells.size = n) (h1 : v.cells.toList.all one = true)
    (h : memK (H.write a v.cells.toList) K) : ∃ w' H', (Instr.storeAt T (.pointer (some a)) v).run P w = .ok () w' ∧ Fits w' H' ∧ K H' := by
  obtain ⟨d, h1', h2, h3⟩ := ty_parts ht
  obtain ⟨bl, o, s⟩ := a
  cases s with
  | some _ => simp [Mem.write, memK] at h
  | none =>
    simp only [Mem.write] at h
    cases hb : H bl with
    | none => simp [hb, memK] at h
    | some B =>
      simp only [hb, Option.bind_some, Blk.write] at h
      split at h
      · rename_i hc
        obtain ⟨w', hr, hf⟩ := run_storeCells (P := P) v.cells.toList 0 w H hw hb hc.1 (by simpa using hc.2.1) (by simpa using hc.2.2) h1
        refine ⟨w', _, ?_, hf, ?_⟩
        · simp only [Instr.storeAt, Instr.sureAddr, Sem.run_bind, Sem.run_pure, Result.andThen_ok, storeVar, run_tsz h2]
          rw [if_neg (by simp [hn])]; exact hr
        · simpa [memK] using h
      · simp [memK] at h

theorem newVar_run (hw : Fits w H) (T : TypeId) (v : Value) {K : Nat → Prop} (h : NewW H K) :
    ∃ n w', (newVar T v).run P w = .ok ⟨n, 0, none⟩ w' ∧ Fits w' (H.upd n ⟨true, v.cells.size, v.cells.toList⟩) ∧ K n :=
  ⟨w.heap.size, w.alloc (.cells v.cells T), by simp [newVar, newRow, newObj, Sem.run], hw.alloc _ _, h _ hw.fresh⟩

theorem fillL_eq (place : Nat → Option (Nat × Nat)) : ∀ (parts : List (Nat × Value)) (cs : Array Value) {out : List Value}, fillL place cs.toList parts = some out → Instr.fill place cs parts = some out.toArray := by
  intro parts
  induction parts with
  | nil => intro cs out h; simp [fillL] at h; subst h; simp [Instr.fill]
  | cons p r ih =>
    obtain ⟨i, v⟩ := p
    intro cs out h
    unfold fillL at h
    unfold Instr.fill
    cases hp : place i with
    | none => simp [hp] at h
    | some q =>
      obtain ⟨off, n⟩ := q
      simp only [hp] at h ⊢
      split at h
      · rename_i hc
        rw [if_neg (by have h1 := hc.1; have h2 := hc.2; simp only [Array.length_toList] at h2; simp only [ne_eq, h1, not_true_eq_false, false_or, decide_eq_true_eq, Bool.or_eq_true, gt_iff_lt]; simp; omega)]
        have key : ∀ (vs : List Value) (j : Nat) (cs : Array Value), off + j + vs.length ≤ cs.size → (vs.zipIdx j).foldl (fun (cs : Array Value) (x : Value × Nat) => cs.setIfInBounds (off + x.2) x.1) cs = (splice cs.toList (off + j) vs).toArray := by
          intro vs
          induction vs with
          | nil => intro j cs _; simp [splice]
          | cons v vs ihv =>
            intro j cs hle
            simp only [List.length_cons] at hle
            simp only [List.zipIdx_cons, List.foldl_cons]
            rw [ihv (j + 1) _ (by simp; omega)]
            congr 1
            have hlt : off + j < cs.toList.length := by simp; omega
            simp only [Array.toList_setIfInBounds]
            exact splice_step hlt v vs
        have hk := key v.cells.toList 0 cs (by have := hc.2; have := hc.1; simp at *; omega)
        rw [show (v.cells.zipIdx.foldl (fun (cs : Array Value) (x : Value × Nat) => cs.setIfInBounds (off + x.2) x.1) cs) = (v.cells.toList.zipIdx 0).foldl (fun (cs : Array Value) (x : Value × Nat) => cs.setIfInBounds (off + x.2) x.1) cs from by
          rw [← Array.foldl_toList]; simp]
        rw [hk]
        exact ih _ (by simpa using h)
      · cases h

theorem run_mapM_places (P : Program) (w : World) (l : List Field) (h : l.all (fun f => (tsz P f.type).isSome) = true) :
    (l.mapM fun f => do pure (f.offset, ← sizeOf f.type) : Sem (List (Nat × Nat))).run P w = .ok (l.map fun f => (f.offset, (tsz P f.type).getD 0)) w := by
  induction l with
  | nil => simp
  | cons f l ih =>
    simp only [List.all_cons, Bool.and_eq_true] at h
    obtain ⟨n, hn⟩ := Option.isSome_iff_exists.1 h.1
    simp only [List.mapM_cons, Sem.run_bind, run_tsz hn, Result.andThen_ok, Sem.run_pure, ih h.2]
    simp [hn]

theorem run_build {T : TypeId} {parts : Array (Nat × Value)} {v : Value} (h : bld P T parts.toList = some v) : (Instr.build T parts).run P w = .ok v w := by
  unfold bld at h
  split at h
  · rename_i l _ z hl hz
    unfold flds at hl
    split at hl
    · rename_i fs hu
      split at hl
      · rename_i hall
        simp only [Option.some.injEq] at hl; subst hl
        obtain ⟨zv, hzr, hzc⟩ := run_tzero (w := w) hz
        cases hf : fillL (fun i => (List.map (fun f => (f.offset, (tsz P f.type).getD 0)) fs.toList)[i]?) z parts.toList with
        | none => rw [hf] at h; cases h
        | some cs =>
          rw [hf] at h
          simp only [Option.map_some, Option.some.injEq] at h; subst h
          subst hzc
          have hfill := fillL_eq _ parts.toList zv.cells hf
          have hm : (fs.mapM fun f => do pure (f.offset, ← sizeOf f.type) : Sem (Array (Nat × Nat))).run P w = .ok (fs.toList.map fun f => (f.offset, (tsz P f.type).getD 0)).toArray w := by
            rw [Array.mapM_eq_mapM_toList]
            rw [← bind_pure_comp, Sem.run_bind, run_mapM_places P w fs.toList hall]
            rfl
          simp only [Instr.build, Sem.run_bind, hzr, Result.andThen_ok, run_und hu, hm]
          simp only [List.getElem?_toArray, hfill]
          simp
      · cases hl
    · cases hl
  · rename_i _ bb n z _ he hz
    obtain ⟨e, hu, ht⟩ := elt_arr he
    obtain ⟨d, h1, h2, h3⟩ := ty_parts ht
    obtain ⟨zv, hzr, hzc⟩ := run_tzero (w := w) hz
    cases hf : fillL (fun i => some (i * n, n)) z parts.toList with
    | none => rw [hf] at h; cases h
    | some cs =>
      rw [hf] at h
      simp only [Option.map_some, Option.some.injEq] at h; subst h
      subst hzc
      have hfill := fillL_eq _ parts.toList zv.cells hf
      simp only [Instr.build, Sem.run_bind, hzr, Result.andThen_ok, run_und hu, run_tsz h2, hfill]
      simp
  · cases h
end
end Go.Proofs.YtgkolnknobgcmaaGreatV
end
section
namespace Go.Proofs.YtgkolnknobgcmaaGreatV
open Go

section
variable {P : Program} {w : World} {H : Mem}

theorem intOf_some {o : Option Value} {i : Option Int} (h : intOf? o = some i) : (o = none ∧ i = none) ∨ ∃ k j, o = some (.int k j) ∧ i = some j := by
  unfold intOf? at h
  split at h
  · simp at h; exact .inl ⟨rfl, h.symm⟩
  · rename_i k i'; simp at h; exact .inr ⟨k, i', rfl, h.symm⟩
  · cases h

theorem run_slc {T : TypeId} {x v : Value} {lo hi : Option Value} (h : slc P T x lo hi = some v) : (Instr.sliceAt T x lo hi none).run P w = .ok v w := by
  unfold slc at h
  split at h
  · rename_i s lo' hi' hl hh
    simp only at h
    split at h
    · rename_i hc
      obtain ⟨h1, h2, h3, h4⟩ := hc
      have hu := isStr_und h1
      simp only [Option.some.injEq] at h; subst h
      simp only [Instr.sliceAt, Sem.run_bind, run_und hu, Result.andThen_ok, Instr.slice, Option.isSome_none, Bool.false_eq_true, if_false]
      rcases intOf_some hl with ⟨rfl, rfl⟩ | ⟨k, j, rfl, rfl⟩ <;> rcases intOf_some hh with ⟨rfl, rfl⟩ | ⟨k', j', rfl, rfl⟩
      · simp [Instr.sliceBounds]
      · simp only [Option.getD_some, Option.getD_none] at h2 h3 h4
        have a2 : 0 ≤ j' ∧ j' ≤ (s.size : Int) := by omega
        simp [Instr.sliceBounds, Instr.sliceBound, asIntOf, a2]
      · simp only [Option.getD_some, Option.getD_none] at h2 h3 h4
        have a1 : 0 ≤ j ∧ j ≤ (s.size : Int) := by omega
        simp [Instr.sliceBounds, Instr.sliceBound, asIntOf, a1]
      · simp only [Option.getD_some] at h2 h3 h4
        have a1 : 0 ≤ j ∧ j ≤ (j'.toNat : Int) := by omega
        have a2 : 0 ≤ j' ∧ j' ≤ (s.size : Int) := by omega
        simp only [Instr.sliceBounds, Instr.sliceBound, asIntOf, Sem.run_bind, Sem.run_pure, Result.andThen_ok]
        rw [if_pos a2]; simp only [Sem.run_pure, Result.andThen_ok]
        rw [if_pos a1]; simp
    · cases h
  · rename_i a len cap lo' hi' hl hh
    simp only at h
    split at h
    · rename_i b n he
      obtain ⟨e, hu, ht⟩ := elt_sl he
      obtain ⟨d, hd1, hd2, hd3⟩ := ty_parts ht
      split at h
      · rename_i hc
        obtain ⟨h2, h3, h4⟩ := hc
        simp only [Option.some.injEq] at h; subst h
        simp only [Instr.sliceAt, Sem.run_bind, run_und hu, Result.andThen_ok, Instr.slice]
        rcases intOf_some hl with ⟨rfl, rfl⟩ | ⟨k, j, rfl, rfl⟩ <;> rcases intOf_some hh with ⟨rfl, rfl⟩ | ⟨k', j', rfl, rfl⟩
        · simp [Instr.sliceBounds, run_tsz hd2]
        · simp only [Option.getD_some, Option.getD_none] at h2 h3 h4
          have a2 : 0 ≤ j' ∧ j' ≤ (cap : Int) := by omega
          simp [Instr.sliceBounds, Instr.sliceBound, asIntOf, a2, run_tsz hd2]
        · simp only [Option.getD_some, Option.getD_none] at h2 h3 h4
          have a1 : 0 ≤ j ∧ j ≤ (len : Int) := by omega
          simp [Instr.sliceBounds, Instr.sliceBound, asIntOf, a1, run_tsz hd2]
        · simp only [Option.getD_some] at h2 h3 h4
          have a1 : 0 ≤ j ∧ j ≤ (j'.toNat : Int) := by omega
          have a2 : 0 ≤ j' ∧ j' ≤ (cap : Int) := by omega
          simp only [Instr.sliceBounds, Instr.sliceBound, asIntOf, Sem.run_bind, Sem.run_pure, Result.andThen_ok]
          rw [if_pos a2]; simp only [Sem.run_pure, Result.andThen_ok]
          rw [if_pos a1]; simp [run_tsz hd2]
      · cases h
    · cases h
  · cases h

theorem semW_val {s : Sem Value} {K : Value → Mem → Prop} (h : ValW P s H K) : SemW P (do pure (.value (← s))) H K := by
  intro w hw
  obtain ⟨v, w', H', hr, hf, hk⟩ := h w hw
  exact ⟨.value v, w', H', by simp [hr], hf, hk⟩
theorem valW_pure {s : Sem Value} {K : Value → Mem → Prop} {v : Value} (h : ∀ w, s.run P w = .ok v w) (hk : K v H) : ValW P s H K :=
  fun w hw => ⟨v, w, H, h w, hw, hk⟩
theorem optK_some {o : Option Value} {K : Value → Prop} (h : optK o K) : ∃ v, o = some v ∧ K v := by
  cases o with
  | none => exact h.elim
  | some v => exact ⟨v, rfl, h⟩

theorem elseK_or {o : Option Value} {K : Value → Prop} {F : Prop} (h : elseK o K F) : (∃ v, o = some v ∧ K v) ∨ F := by
  cases o with
  | none => exact .inr h
  | some v => exact .inl ⟨v, rfl, h⟩

theorem opW_sem {e : Env} {o : Oper} {K : Value → Mem → Prop} (h : opW P e H o K) :
    SemW P (execOp (ev e) o) H K ∨ ∃ l args f as ts first cap, o.op = .call ⟨.value f, as, ts⟩ ∧ ev e f = .func (.yield l) first cap ∧ (execOp (ev e) o) = Instr.yield l args ∧ YieldW P l args H K := by
  by_cases hy : ∃ f as ts l first cap, o.op = .call ⟨.value f, as, ts⟩ ∧ ev e f = .func (.yield l) first cap
  · obtain ⟨f, as, ts, l, first, cap, hop, hf⟩ := hy
    refine .inr ⟨l, first ++ as.map (ev e), f, as, ts, first, cap, hop, hf, ?_, ?_⟩
    · simp only [execOp, hop, resolve, hf, Deferred.ofValue]; rfl
    · unfold opW at h; simp only [hop, funK, hf] at h; exact h
  refine .inl ?_
  obtain ⟨dst, op, type, pos, after, guard⟩ := o
  unfold opW at h
  split at h <;> rename_i hop <;> (try simp only at hop) <;> (try subst hop)
  · exact fun w hw => ⟨.value _, w, H, rfl, hw, h⟩
  · exact fun w hw => ⟨.value _, w, H, rfl, hw, h⟩
  · rename_i c a b
    unfold boolK at h
    split at h
    · rename_i t ht
      refine fun w hw => ⟨.value (if t then ev e a else ev e b), w, H, ?_, hw, h⟩
      simp [execOp, ht, asBool]
    · exact h.elim
  · rcases elseK_or h with ⟨v, hb, h⟩ | h
    · exact semW_val (valW_pure (fun w => run_bin hb _ _) h)
    · exact h
  · obtain ⟨v, hv, hk⟩ := optK_some h
    exact semW_val (valW_pure (fun w => run_un hv) hk)
  · rcases elseK_or h with ⟨v, hb, h⟩ | h
    · exact semW_val (valW_pure (fun w => run_conv hb) h)
    · exact semW_val h
  · obtain ⟨v, hv, hk⟩ := optK_some h
    exact semW_val (valW_pure (fun w => run_idx hv) hk)
  · obtain ⟨v, hv, hk⟩ := optK_some h
    exact semW_val (valW_pure (fun w => run_idxA hv) hk)
  · rcases elseK_or h with ⟨v, hb, h⟩ | h
    · exact semW_val (valW_pure (fun w => run_slc hb) h)
    · exact semW_val h
  · obtain ⟨v, hv, hk⟩ := optK_some h
    exact semW_val (valW_pure (fun w => run_fadr hv) hk)
  · obtain ⟨v, hv, hk⟩ := optK_some h
    exact semW_val (valW_pure (fun w => run_fval hv) hk)
  · obtain ⟨v, hv, hk⟩ := optK_some h
    exact semW_val (valW_pure (fun w => run_extr hv) hk)
  · obtain ⟨v, hv, hk⟩ := optK_some h
    rename_i x
    refine fun w hw => ⟨.value v, w, H, ?_, hw, hk⟩
    unfold nilc at hv
    split at hv
    · rename_i a ha; simp only [Option.some.injEq] at hv; subst hv; simp [execOp, ha]
    · rename_i f a b ha; simp only [Option.some.injEq] at hv; subst hv; simp [execOp, ha]
    · cases hv
  · exact semW_val (valW_pure (fun w => rfl) h)
  · obtain ⟨v, hv, hk⟩ := optK_some h
    exact semW_val (valW_pure (fun w => run_build (by simpa using hv)) hk)
  · rename_i T a
    unfold loadW at h
    split at h
    · rename_i b n ad ht ha
      intro w hw
      obtain ⟨v, hr, hk⟩ := run_loadAt hw ht h
      exact ⟨.value v, w, H, by simp [execOp, ha, hr], hw, hk⟩
    · exact h.elim
  · rename_i T a x
    unfold storeW at h
    split at h
    · rename_i b n ad ht ha
      intro w hw
      obtain ⟨h1, h2, h3⟩ := h
      obtain ⟨w', H', hr, hf, hk⟩ := run_storeAt hw ht h1 h2 h3
      exact ⟨.skip, w', H', by simp [execOp, ha, hr], hf, hk⟩
    · exact h.elim
  · rename_i T x
    intro w hw
    obtain ⟨n, w', hr, hf, hk⟩ := newVar_run (P := P) hw T (ev e x) h
    exact ⟨.value (.pointer (some ⟨n, 0, none⟩)), w', _, by simp [execOp, Instr.box, hr], hf, hk⟩
  · rename_i T
    unfold allocW at h
    split at h
    · rename_i z hz
      intro w hw
      obtain ⟨zv, hzr, hzc⟩ := run_tzero (w := w) hz
      subst hzc
      have h' : NewW H fun n => K (.pointer (some ⟨n, 0, none⟩)) (H.upd n ⟨true, zv.cells.size, zv.cells.toList⟩) := by simpa using h
      obtain ⟨n, w', hr, hf, hk⟩ := newVar_run (P := P) hw T zv h'
      exact ⟨.value (.pointer (some ⟨n, 0, none⟩)), w', _, by simp [execOp, Instr.alloc, hzr, hr], hf, hk⟩
    · exact h.elim
  · rename_i f as ts
    unfold funK at h
    split at h
    · rename_i g first captured hf
      intro w hw
      obtain ⟨nx, w', H', hr, hf', hk⟩ := h w hw
      refine ⟨nx, w', H', ?_, hf', hk⟩
      simp only [execOp, resolve, hf, Deferred.ofValue, Sem.run_bind, Sem.run_pure, Result.andThen_ok, invoke]
      exact hr
    · rename_i l first cap hf
      exact (hy ⟨f, as, ts, l, first, cap, rfl, hf⟩).elim
    · exact h
  · rename_i as ts
    split at h
    · rename_i x T hx hT
      obtain ⟨v, hv, hk⟩ := optK_some h
      refine fun w hw => ⟨.value v, w, H, ?_, hw, hk⟩
      have e1 : as = #[x] := by rw [← Array.toList_inj]; simp [hx]
      have e2 : ts = #[T] := by rw [← Array.toList_inj]; simp [hT]
      subst e1 e2
      simp [execOp, resolve, invoke, builtin, run_len hv]
    · exact h.elim
  · rename_i as ts
    obtain ⟨v, hv, hk⟩ := optK_some h
    refine fun w hw => ⟨.value v, w, H, ?_, hw, hk⟩
    have := run_minmax (P := P) (w := w) (ts := ts) (U := type) hv
    simp only [Bool.false_eq_true, if_false] at this
    simp only [execOp, resolve, invoke, builtin, Sem.run_bind, Sem.run_pure, Result.andThen_ok]
    rw [show as.map (ev e) = (as.toList.map (ev e)).toArray from by rw [← Array.toList_map], this]; rfl
  · rename_i as ts
    obtain ⟨v, hv, hk⟩ := optK_some h
    refine fun w hw => ⟨.value v, w, H, ?_, hw, hk⟩
    have := run_minmax (P := P) (w := w) (ts := ts) (U := type) hv
    simp only [if_true] at this
    simp only [execOp, resolve, invoke, builtin, Sem.run_bind, Sem.run_pure, Result.andThen_ok]
    rw [show as.map (ev e) = (as.toList.map (ev e)).toArray from by rw [← Array.toList_map], this]; rfl
  · exact h
end
end Go.Proofs.YtgkolnknobgcmaaGreatV
end
section
namespace Go.Proofs.YtgkolnknobgcmaaGreatV
open Go

/-- What an operation's guard looks at. -/
def gval (ops : List Oper) (e : Env) (j : Nat) : Value :=
  match (ops[j]?).bind (·.dst) with
  | some d => e d
  | none => undef
def pwOps (P : Program) (all : List Oper) : List Oper → Env → Mem → (Env → Mem → Prop) → Prop
  | [], e, H, K => K e H
  | o :: r, e, H, K =>
    match o.guard with
    | none => opW P e H o fun v H' => pwOps P all r (e.put o.dst v) H' K
    | some (j, want) => GuardW (gval all e j) want (opW P e H o fun v H' => pwOps P all r (e.put o.dst v) H' K) (pwOps P all r (e.put o.dst undef) H K)

def liftQ (n : Nat) (Q : Exit → Env → Mem → Prop) : Exit → Act → World → Prop := fun x a w => ∃ e H, Agrees n a e ∧ Fits w H ∧ Q x e H
/-- In an activation (none), or in a round of a range over a function. -/
def GF : Option Nat → Fence
  | none => Fence.wide
  | some l => Fence.wide.inRound l
theorem GF_fn (r : Option Nat) (f : FuncId) : (GF r).fn f := by cases r <;> trivial
theorem GF_depth (r : Option Nat) : (GF r).depth = none := by cases r <;> rfl
theorem GF_round (r : Option Nat) : (GF r).round = r := by cases r <;> rfl
theorem GF_room (r : Option Nat) (k : Nat) : (GF r).room k := by cases r <;> exact fun _ h => by simp [GF, Fence.wide, Fence.inRound] at h
theorem GF_fenced (r : Option Nat) (P : Program) : Machine.fenced P (GF r) = Machine.fenced P Fence.wide := by cases r <;> rfl
/-- Code that is not read further. -/
def CodeW (P : Program) (n : Nat) (r : Option Nat) (c : Code) (Q : Exit → Env → Mem → Prop) (e : Env) (H : Mem) (_x : Bx Q := ⟨⟩) : Prop :=
  ∀ a w, Agrees n a e → Fits w H → c.wpIn (GF r) 0 P (liftQ n Q) a w

def thenQ (K : Env → Mem → Prop) (Q : Exit → Env → Mem → Prop) : Exit → Env → Mem → Prop
  | .normal => K
  | x => Q x
def blockQ (id : Nat) (Q : Exit → Env → Mem → Prop) : Exit → Env → Mem → Prop
  | .exit id' => if id' = id then Q .normal else Q (.exit id')
  | x => Q x

def pw (P : Program) (n : Nat) (r : Option Nat) : Code → (Exit → Env → Mem → Prop) → Env → Mem → Prop
  | .skip, Q, e, H => Q .normal e H
  | .region id ops draw, Q, e, H => if draw = true then CodeW P n r (.region id ops true) Q e H else pwOps P ops.toList ops.toList e H (Q .normal)
  | .seq a b, Q, e, H => pw P n r a (thenQ (pw P n r b Q) Q) e H
  | .cond c a b, Q, e, H => boolK (ev e c) fun t => CondW t (pw P n r a Q e H) (pw P n r b Q e H)
  | .block id c, Q, e, H => pw P n r c (blockQ id Q) e H
  | .exit id, Q, e, H => Q (.exit id) e H
  | .ret, Q, e, H => Q .ret e H
  | c, Q, e, H => CodeW P n r c Q e H

/-- Does the code write the frame's own slots alone? -/
def dstOk (n : Nat) (o : Oper) : Bool := match o.dst with | some t => decide (t < n) | none => true
def codeOk (n : Nat) : Code → Bool
  | .region _ ops _ => ops.toList.all (dstOk n)
  | .seq a b => codeOk n a && codeOk n b
  | .cond _ a b => codeOk n a && codeOk n b
  | .block _ c => codeOk n c
  | .loop c => codeOk n c
  | _ => true

section
variable {P : Program}

theorem round_in {r : Option Nat} {l : Nat} {f : FuncId} {tmps : Array Value} {assign body : Code} {w : World} {R : Ending → World → Prop} (h : RoundIn Fence.wide 0 P l f tmps assign body w R) : RoundIn (GF r) 0 P l f tmps assign body w R :=
  ⟨GF_fn r f, fun c cs _ => by
    obtain ⟨e, w', hR, hc⟩ := h.2 c cs (GF_room none _)
    refine ⟨e, w', hR, ?_⟩
    rw [GF_fenced]; exact hc⟩
theorem calls_in {r : Option Nat} {f : FuncId} {args : Array Value} {w : World} {R : Ending → World → Prop} (h : Calls P f args w R) : CallsIn (GF r) 0 P f args w R := by
  cases r with
  | none => exact callsIn_wide.2 h
  | some l => exact (callsIn_wide (n := 0)).2 h

theorem op_wp {r : Option Nat} {n : Nat} {a : Act} {w : World} {e : Env} {H : Mem} {o : Oper} {K : Value → Mem → Prop} (ha : Agrees n a e) (hw : Fits w H) (h : opW P e H o K)
    {next : Act → World → Prop} {Q : Exit → Act → World → Prop} (hn : ∀ v w' H', Fits w' H' → K v H' → next (a.put o.dst v) w') : o.wpIn (GF r) 0 P a w next Q := by
  refine ⟨fun f _ => GF_fn r f, ?_⟩
  rcases opW_sem h with h | ⟨l, args, f, as, ts, first, cap, hop, hf, hex, hy⟩
  · obtain ⟨nx, w', H', hr, hf, hk⟩ := h w hw
    have hsem : (o.semAt (GF r).round a.eval) = execOp (ev e) o := by
      rw [ha.eval]
      by_cases hd : ∃ c, o.op = .defer c
      · obtain ⟨c, hd⟩ := hd
        exfalso
        unfold execOp at hr
        simp only [hd, Sem.run_bind] at hr
        cases hres : (resolve (ev e) c o.type).run P w with
        | ok d w2 => simp [hres] at hr; obtain ⟨rfl, _⟩ := hr; exact hk
        | halt x w2 => simp [hres] at hr
      · exact Oper.semAt_eq _ _ _ fun c hc => hd ⟨c, hc⟩
    rw [hsem, hr]
    cases nx <;> simp only [NextW] at hk
    case value => exact hn _ _ _ hf hk
    case skip => exact hn _ _ _ hf hk
    case enter => exact ⟨fun h => by simp [GF_depth] at h, (calls_in (hk w' hf)).mono fun x w'' ⟨v, H'', hx, hf', hk'⟩ => by subst hx; exact hn _ _ _ hf' hk'⟩
  · have hsem : (o.semAt (GF r).round a.eval) = execOp (ev e) o := by
      rw [ha.eval]; exact Oper.semAt_eq _ _ _ fun c hc => by rw [hop] at hc; cases hc
    obtain ⟨f', tmps, assign, body, hr, hround⟩ := hy w hw
    rw [hsem, hex, hr]
    exact ⟨fun h => by simp [GF_depth] at h, (round_in hround).mono fun x w'' ⟨v, H'', hx, hf', hk'⟩ => by subst hx; exact hn _ _ _ hf' hk'⟩

/-- Not a call of a function value in a slot. -/
def plainOp (o : Oper) : Bool := match o.op with | .call ⟨.value (.tmp _), _, _⟩ => false | .call ⟨.value (.const _), _, _⟩ => false | _ => true
theorem op_wp_plain {n : Nat} {a : Act} {w : World} {e : Env} {H : Mem} {o : Oper} {K : Value → Mem → Prop} (hp : plainOp o = true) (ha : Agrees n a e) (hw : Fits w H) (h : opW P e H o K)
    {next : Act → World → Prop} {Q : Exit → Act → World → Prop} (hn : ∀ v w' H', Fits w' H' → K v H' → next (a.put o.dst v) w') : o.wp P a w next Q := by
  rcases opW_sem h with h | ⟨l, args, f, as, ts, first, cap, hop, hf, hex, hy⟩
  · obtain ⟨nx, w', H', hr, hf, hk⟩ := h w hw
    unfold Oper.wp
    rw [ha.eval, hr]
    cases nx <;> simp only [NextW] at hk
    · exact hn _ _ _ hf hk
    · exact hn _ _ _ hf hk
    · exact (hk w' hf).mono fun x w'' ⟨v, H'', hx, hf', hk'⟩ => by subst hx; exact hn _ _ _ hf' hk'
  · exfalso
    unfold plainOp at hp
    rw [hop] at hp
    cases f <;> simp_all [ev]

theorem wanted_none {ops : Array Oper} {o : Oper} {tmps : Array Value} (h : o.guard = none) : Region.wanted o (yielded ops tmps) = true := by simp [Region.wanted, h]

theorem yielded_gval {n : Nat} {a : Act} {e : Env} (ha : Agrees n a e) (ops : Array Oper) (j : Nat) :
    yielded ops a.tmps j = match gval ops.toList e j with | .bool b => some b | _ => none := by
  unfold yielded gval
  rw [Array.getElem?_toList]
  cases hd : (ops[j]?).bind (·.dst) with
  | none => simp [undef]
  | some d =>
    simp only [Option.bind_some]
    have := ha.get d
    rw [← this]
    cases hg : a.tmps[d]? with
    | none => simp [Array.getD_eq_getD_getElem?, hg, undef]
    | some v => simp only [Array.getD_eq_getD_getElem?, hg, Option.getD_some]; cases v <;> rfl

theorem pwOps_sound {r : Option Nat} {n : Nat} {ops : Array Oper} {Q : Exit → Act → World → Prop} {K : Env → Mem → Prop} (hK : ∀ a w e H, Agrees n a e → Fits w H → K e H → Q .normal a w) :
    ∀ (l : List Oper), (∀ o ∈ l, dstOk n o = true) → ∀ (a : Act) (w : World) (e : Env) (H : Mem), Agrees n a e → Fits w H → pwOps P ops.toList l e H K → wpListIn (GF r) 0 P ops Q l a w := by
  intro l
  induction l with
  | nil => intro _ a w e H ha hw h; exact hK a w e H ha hw h
  | cons o l ih =>
    intro hd a w e H ha hw h
    have hdo : ∀ t, o.dst = some t → t < n := by
      intro t ht
      have := hd o (by simp)
      simpa [dstOk, ht] using this
    have ih' := ih fun o ho => hd o (by simp [ho])
    unfold pwOps at h
    unfold wpListIn
    split at h
    · rename_i hg
      rw [if_pos (wanted_none hg)]
      exact op_wp ha hw h fun v w' H' hf hk => ih' _ _ _ _ (ha.put hdo v) hf hk
    · rename_i j want hg
      have hy := yielded_gval ha ops j
      unfold GuardW at h
      split at h
      · rename_i b hb
        rw [hb] at hy
        simp only at hy
        by_cases hbw : b = want
        · subst hbw
          rw [if_pos (by simp [Region.wanted, hg, hy])]
          exact op_wp ha hw (h.1 (by simp)) fun v w' H' hf hk => ih' _ _ _ _ (ha.put hdo v) hf hk
        · rw [if_neg (by simp [Region.wanted, hg, hy, hbw])]
          exact ⟨fun f _ => GF_fn r f, ih' _ _ _ _ (ha.put hdo undef) hw (h.2 (by simp [hbw]))⟩
      · rename_i hb
        have : yielded ops a.tmps j = none := by
          rw [hy]; split
          · rename_i b hb'; exact absurd hb' (hb b)
          · rfl
        rw [if_neg (by simp [Region.wanted, hg, this])]
        exact ⟨fun f _ => GF_fn r f, ih' _ _ _ _ (ha.put hdo undef) hw h⟩

theorem pwOps_plain {n : Nat} {ops : Array Oper} {Q : Exit → Act → World → Prop} {K : Env → Mem → Prop} (hK : ∀ a w e H, Agrees n a e → Fits w H → K e H → Q .normal a w) :
    ∀ (l : List Oper), (∀ o ∈ l, dstOk n o = true ∧ plainOp o = true) → ∀ (a : Act) (w : World) (e : Env) (H : Mem), Agrees n a e → Fits w H → pwOps P ops.toList l e H K → wpList P ops Q l a w := by
  intro l
  induction l with
  | nil => intro _ a w e H ha hw h; exact hK a w e H ha hw h
  | cons o l ih =>
    intro hd a w e H ha hw h
    have hdo : ∀ t, o.dst = some t → t < n := by
      intro t ht
      have := (hd o (by simp)).1
      simpa [dstOk, ht] using this
    have hp := (hd o (by simp)).2
    have ih' := ih fun o ho => hd o (by simp [ho])
    unfold pwOps at h
    unfold wpList
    split at h
    · rename_i hg
      rw [if_pos (wanted_none hg)]
      exact .inl (op_wp_plain hp ha hw h fun v w' H' hf hk => ih' _ _ _ _ (ha.put hdo v) hf hk)
    · rename_i j want hg
      have hy := yielded_gval ha ops j
      unfold GuardW at h
      split at h
      · rename_i b hb
        rw [hb] at hy
        simp only at hy
        by_cases hbw : b = want
        · subst hbw
          rw [if_pos (by simp [Region.wanted, hg, hy])]
          exact .inl (op_wp_plain hp ha hw (h.1 (by simp)) fun v w' H' hf hk => ih' _ _ _ _ (ha.put hdo v) hf hk)
        · rw [if_neg (by simp [Region.wanted, hg, hy, hbw])]
          exact ih' _ _ _ _ (ha.put hdo undef) hw (h.2 (by simp [hbw]))
      · rename_i hb
        have : yielded ops a.tmps j = none := by
          rw [hy]; split
          · rename_i b hb'; exact absurd hb' (hb b)
          · rfl
        rw [if_neg (by simp [Region.wanted, hg, this])]
        exact ih' _ _ _ _ (ha.put hdo undef) hw h

theorem codeOk_region {n : Nat} {id : Nat} {ops : Array Oper} {d : Bool} (h : codeOk n (.region id ops d) = true) : ∀ o ∈ ops.toList, dstOk n o = true := by
  exact List.all_eq_true.1 h

theorem pw_sound {n : Nat} {r : Option Nat} : ∀ (c : Code), codeOk n c = true → ∀ (Q : Exit → Env → Mem → Prop) (e : Env) (H : Mem), pw P n r c Q e H → CodeW P n r c Q e H
  | .skip, _, Q, e, H, h => fun a w ha hw => wpIn_skip ⟨e, H, ha, hw, h⟩
  | .region id ops draw, hc, Q, e, H, h => by
    unfold pw at h
    split at h
    · rename_i hd; subst hd; exact h
    · rename_i hd
      have : draw = false := by simpa using hd
      subst this
      intro a w ha hw
      exact wpIn_region_list (pwOps_sound (n := n) (K := Q .normal) (fun a w e H ha hw hk => ⟨e, H, ha, hw, hk⟩) ops.toList (codeOk_region hc) a w e H ha hw h)
  | .seq c d, hc, Q, e, H, h => by
    simp only [codeOk, Bool.and_eq_true] at hc
    intro a w ha hw
    refine wpIn_seq (Go.wpIn_mono (pw_sound c hc.1 _ e H h a w ha hw) ?_)
    rintro x a' w' ⟨e', H', ha', hw', hq⟩
    cases x with
    | normal => exact pw_sound d hc.2 Q e' H' hq a' w' ha' hw'
    | _ => exact ⟨e', H', ha', hw', hq⟩
  | .cond c x y, hc, Q, e, H, h => by
    simp only [codeOk, Bool.and_eq_true] at hc
    intro a w ha hw
    unfold pw boolK at h
    split at h
    · rename_i t ht
      refine wpIn_cond (t := t) (by rw [ha.eval]; exact ht) ?_
      cases t
      · exact pw_sound y hc.2 Q e H (h.2 rfl) a w ha hw
      · exact pw_sound x hc.1 Q e H (h.1 rfl) a w ha hw
    · exact h.elim
  | .block id c, hc, Q, e, H, h => by
    intro a w ha hw
    refine wpIn_block (Go.wpIn_mono (pw_sound c hc _ e H h a w ha hw) ?_)
    rintro x a' w' ⟨e', H', ha', hw', hq⟩
    cases x with
    | exit id' =>
      simp only [blockQ] at hq
      simp only [Exit.inBlock]
      split at hq <;> rename_i hid
      · rw [if_pos hid]; exact ⟨e', H', ha', hw', hq⟩
      · rw [if_neg hid]; exact ⟨e', H', ha', hw', hq⟩
    | _ => exact ⟨e', H', ha', hw', hq⟩
  | .exit id, _, Q, e, H, h => fun a w ha hw => wpIn_exit ⟨e, H, ha, hw, h⟩
  | .ret, _, Q, e, H, h => fun a w ha hw => wpIn_ret ⟨e, H, ha, hw, h⟩
  | .loop _, _, Q, e, H, h => h
  | .rangeFunc .., _, Q, e, H, h => h
  | .scope _, _, Q, e, H, h => h
  | .label _, _, Q, e, H, h => h
  | .goto _, _, Q, e, H, h => h
  | .refuse _, _, Q, e, H, h => h

/-! ### loops -/
/-- A loop at its head. -/
def LoopW (P : Program) (n : Nat) (r : Option Nat) (c : Code) (Q : Exit → Env → Mem → Prop) (e : Env) (H : Mem) (_x : Bx Q := ⟨⟩) : Prop :=
  ∀ a w, Agrees n a e → Fits w H → ∀ (b : Frame) (k : List Item) (cs : List Frame), b.roundOf = (GF r).round →
    ∃ y a' w', liftQ n Q y a' w' ∧ ArrivesIn (Machine.fenced P (GF r)) P (lone (b.atR a (.code c :: .inLoop c :: k)) cs w) b k cs y a' w'
theorem loop_enter {n : Nat} {r : Option Nat} {c : Code} {Q : Exit → Env → Mem → Prop} {e : Env} {H : Mem} (h : LoopW P n r c Q e H) : CodeW P n r (.loop c) Q e H :=
  fun a w ha hw b k cs hro hb hr => let ⟨y, a', w', q, x⟩ := h a w ha hw b k cs hro; ⟨y, a', w', q, .of_steps (.one (fenced_calm hb hr rfl) stepR_loop) x⟩
/-- One round. -/
theorem loop_round {n : Nat} {r : Option Nat} {c : Code} (hc : codeOk n c = true) {Q : Exit → Env → Mem → Prop} {e : Env} {H : Mem}
    (h : pw P n r c (thenQ (fun e H => LoopW P n r c Q e H) Q) e H) : LoopW P n r c Q e H := by
  intro a w ha hw b kk cs hro
  have hb := GF_fn r b.fn
  have hrm := GF_room r (cs.length + 1 + 0)
  obtain ⟨y, a₁, w₁, hq, harr⟩ := pw_sound c hc _ e H h a w ha hw b (.inLoop c :: kk) cs hro hb hrm
  obtain ⟨e₁, H₁, ha₁, hw₁, hq⟩ := hq
  cases y with
  | normal =>
    obtain ⟨y₂, a₂, w₂, hq₂, harr₂⟩ := hq a₁ w₁ ha₁ hw₁ b kk cs hro
    exact ⟨y₂, a₂, w₂, hq₂, .of_steps (StepsIn.trans harr (.one (fenced_calm hb hrm rfl) stepR_inLoop)) harr₂⟩
  | exit id => exact ⟨_, a₁, w₁, ⟨e₁, H₁, ha₁, hw₁, hq⟩, .pass (x := .inLoop c) rfl (fun _ _ => .inl (by simp)) harr⟩
  | goto l => exact ⟨_, a₁, w₁, ⟨e₁, H₁, ha₁, hw₁, hq⟩, .pass (x := .inLoop c) rfl (fun _ _ => .inl (by simp)) harr⟩
  | ret => exact ⟨_, a₁, w₁, ⟨e₁, H₁, ha₁, hw₁, hq⟩, .pass (x := .inLoop c) rfl (fun _ _ => .inl (by simp)) harr⟩
  | panic ch => exact ⟨_, a₁, w₁, ⟨e₁, H₁, ha₁, hw₁, hq⟩, .pass (x := .inLoop c) rfl (fun _ _ => .inl (by simp)) harr⟩
  | outgrown => exact ⟨_, a₁, w₁, ⟨e₁, H₁, ha₁, hw₁, hq⟩, .pass (x := .inLoop c) rfl (fun _ _ => .inl (by simp)) harr⟩
/-- A loop by induction: what holds at its head (x: whatever is counted), and how far it is from its end. -/
theorem loop_ind {α : Type} {n : Nat} {r : Option Nat} {c : Code} (hc : codeOk n c = true) {Q : Exit → Env → Mem → Prop} (I : α → Env → Mem → Prop) (μ : α → Nat)
    (round : ∀ x e H, I x e H → (∀ y e' H', I y e' H' → μ y < μ x → LoopW P n r c Q e' H') → pw P n r c (thenQ (fun e H => LoopW P n r c Q e H) Q) e H) :
    ∀ x e H, I x e H → LoopW P n r c Q e H := by
  have key : ∀ k x e H, μ x = k → I x e H → LoopW P n r c Q e H := by
    intro k
    induction k using Nat.strongRecOn with
    | _ k ih => exact fun x e H hk hI => loop_round hc (round x e H hI fun y e' H' hI' hlt => ih (μ y) (hk ▸ hlt) y e' H' rfl hI')
  exact fun x e H => key _ x e H rfl

/-! ### functions -/
def retVals (P : Program) (H : Mem) (e : Env) : List ResultVar → Option (List Value)
  | [] => some []
  | .tmp t :: r => (retVals P H e r).map (e t :: ·)
  | .cell a T :: r => match ty P T, e a with
    | some (b, n), .pointer (some ad) => (H.read ad n).bind fun vs => match b, vs with
      | true, vs => (retVals P H e r).map (.agg vs.toArray :: ·)
      | false, [v] => (retVals P H e r).map (v :: ·)
      | _, _ => none
    | _, _ => none
def tupV : List Value → Value
  | [v] => v
  | vs => .tuple vs.toArray
def retK (o : Option (List Value)) (K : Value → Prop) (_x : Bx K := ⟨⟩) : Prop := match o with | some vs => K (tupV vs) | none => False
/-- A frame's deferred calls are come to: none; or the mark of a range over a function whose rounds deferred nothing. -/
def leaveK (ds : List Deferred) (H : Mem) (K : Mem → Prop) (_x : Bx K := ⟨⟩) : Prop :=
  match ds with
  | [] => K H
  | [⟨.collected b, _⟩] => H.o b = some (.deferred (some [])) ∧ K (H.updO b none)
  | _ => False
/-- How a function's code ends: by falling off its end, or by a return. -/
def endQ (P : Program) (rs : List ResultVar) (K : Value → Mem → Prop) : Exit → Env → Mem → Prop
  | .normal, e, H | .ret, e, H => leaveK e.ds H fun H' => retK (retVals P H' e rs) fun v => K v H'
  | _, _, _ => False
def initE (args : List Value) : Env := ⟨fun t => args[t]?.getD undef, []⟩

def resOne (tmps : Array Value) : ResultVar → Sem Value
  | .tmp t => pure (tmps.getD t undef)
  | .cell a t => do loadVar t (← asAddr (tmps.getD a undef))

theorem run_retVals {tmps : Array Value} {e : Env} {w : World} {H : Mem} (ha : ∀ t, tmps.getD t undef = e t) (hw : Fits w H) : ∀ (rs : List ResultVar) {vs : List Value}, retVals P H e rs = some vs →
    (rs.mapM (resOne tmps)).run P w = .ok vs w := by
  intro rs
  induction rs with
  | nil => intro vs h; simp only [retVals, Option.some.injEq] at h; subst h; rfl
  | cons r rs ih =>
    intro vs h
    have step : ∀ v l, (resOne tmps r).run P w = .ok v w → retVals P H e rs = some l → vs = v :: l → ((r :: rs).mapM (resOne tmps)).run P w = .ok vs w := by
      intro v l h1 h2 h3
      simp only [List.mapM_cons, Sem.run_bind, h1, Result.andThen_ok, ih h2, Sem.run_pure, h3]
    cases r with
    | tmp t =>
      simp only [retVals, Option.map_eq_some_iff] at h
      obtain ⟨l, hl, rfl⟩ := h
      exact step _ l (by simp only [resOne, Sem.run_pure, ha t]) hl rfl
    | cell x T =>
      simp only [retVals] at h
      split at h
      · rename_i b m ad ht hx
        cases hr : H.read ad m with
        | none => simp [hr] at h
        | some us =>
          simp only [hr, Option.bind_some] at h
          have key : ∀ v, readK (some us) b (fun u => u = v) → (resOne tmps (.cell x T)).run P w = .ok v w := by
            intro v hv
            obtain ⟨u, hu, rfl⟩ := run_loadAt (P := P) hw ht (a := ad) (K := fun u => u = v) (by rw [hr]; exact hv)
            simp only [resOne, ha x, hx, asAddr, Sem.run_bind, Sem.run_pure, Result.andThen_ok]
            simpa [Instr.loadAt, Instr.sureAddr] using hu
          split at h
          · simp only [Option.map_eq_some_iff] at h
            obtain ⟨l, hl, rfl⟩ := h
            exact step _ l (key (.agg us.toArray) (by simp [readK])) hl rfl
          · simp only [Option.map_eq_some_iff] at h
            obtain ⟨l, hl, rfl⟩ := h
            exact step _ l (key _ (by simp [readK])) hl rfl
          · cases h
      · cases h

theorem run_results' {tmps : Array Value} {e : Env} {w : World} {H : Mem} (ha : ∀ t, tmps.getD t undef = e t) (hw : Fits w H) {fn : Func} {vs : List Value} (h : retVals P H e fn.results.toList = some vs) :
    (results fn tmps).run P w = .ok (tupV vs) w := by
  have hm := run_retVals (P := P) ha hw fn.results.toList h
  have hres : results fn tmps = (do let vs ← fn.results.mapM (resOne tmps); pure (if h : vs.size = 1 then vs[0] else .tuple vs)) := by
    unfold results; congr 1
  rw [hres, Sem.run_bind, Array.mapM_eq_mapM_toList, ← bind_pure_comp, Sem.run_bind, hm]
  simp only [Result.andThen_ok, Sem.run_pure]
  congr 1
  match vs with
  | [] => rfl
  | [v] => rfl
  | u :: v :: r => simp [tupV]

/-- What a function of the program comes to, out of its code's formula. -/
theorem invW_of_pw {f : FuncId} {fn : Func} {c : Code} {args : Array Value} {H : Mem} {K : Value → Mem → Prop} (hf : P.funcs[f]? = some fn) (hb : fn.body = some c)
    (hname : (fn.name == "runtime.NumGoroutine") = false) (hok : codeOk fn.ntmps c = true) (hn : args.size ≤ fn.ntmps)
    (h : pw P fn.ntmps none c (endQ P fn.results.toList K) (initE args.toList) H) : InvW P f args H K := by
  intro w hw
  refine ⟨.enter f args, w, H, ?_, hw, ?_⟩
  · have hname' : ¬ fn.name = "runtime.NumGoroutine" := by simpa using hname
    simp [callFunc, program, Sem.run, hf, hname', hb]
  · intro w hw
    refine callsIn_wide.1 (callsIn_of_wp_marks (F := Fence.wide) (n := 0) hf hb trivial ?_ rfl)
    have hag : Agrees fn.ntmps { tmps := args ++ Array.replicate (fn.ntmps - args.size) undef, defers := [] } (initE args.toList) := by
      refine ⟨rfl, by simp; omega, fun t => ?_⟩
      simp only [initE, Array.getD_eq_getD_getElem?, Array.getElem?_append, Array.getElem?_replicate, Array.getElem?_toList]
      by_cases ht : t < args.size
      · simp [ht]
      · rw [if_neg ht, Array.getElem?_eq_none (by omega)]
        split <;> rfl
    refine Go.wpIn_mono (pw_sound c hok _ _ H h _ w hag hw) ?_
    rintro x a' w' ⟨e', H', ha', hw', hq⟩
    have key : leaveK e'.ds H' (fun H' => retK (retVals P H' e' fn.results.toList) fun v => K v H') →
        LeavesInM Fence.wide 0 P fn a'.tmps (fun x w' => ∃ v H', x = .returned v ∧ Fits w' H' ∧ K v H') a'.defers .returning w' := by
      intro hq
      rw [ha'.defers]
      have fin : ∀ {w'' : World} {H'' : Mem}, Fits w'' H'' → retK (retVals P H'' e' fn.results.toList) (fun v => K v H'') →
          LeavesInM Fence.wide 0 P fn a'.tmps (fun x w' => ∃ v H', x = .returned v ∧ Fits w' H' ∧ K v H') [] .returning w'' := by
        intro w'' H'' hw'' hq
        unfold retK at hq
        split at hq
        · rename_i vs hvs
          exact ⟨_, run_results' ha'.get hw'' hvs, _, H'', rfl, hw'', hq⟩
        · exact hq.elim
      unfold leaveK at hq
      split at hq
      · rename_i hds; rw [hds]; exact fin hw' hq
      · rename_i b as hds
        rw [hds]
        obtain ⟨ho, hk⟩ := hq
        have hb := (hw'.2 b _ ho).2
        refine ⟨by simp, .inl ⟨b, _, rfl, run_takeDeferred hb, fin ?_ hk⟩⟩
        refine ⟨fun c B hB => ?_, fun c y hy => ?_, fun u hu => ?_, fun c y hc => ?_⟩
        rotate_left 3
        · obtain ⟨cc, h1, h2⟩ := hw'.4 c y hc
          have hne : c ≠ b := by rintro rfl; rw [hb] at h1; cases h1
          exact ⟨cc, by rw [World.putObj_heap_other hne]; exact h1, h2⟩
        rotate_left 2
        · obtain ⟨⟨s1, s2, s3, s4, s5⟩, q2, q3⟩ := hw'.3 u hu
          have hub := q3 b _ ho
          refine ⟨⟨s1, s2, by simpa [World.putObj] using s3, fun i hi => ?_, s5⟩, q2, fun c y hy => ?_⟩
          · rw [World.putObj_heap_other (by omega)]; exact s4 i hi
          · simp only [Mem.updO] at hy
            split at hy
            · cases hy
            · exact q3 c y hy
        · obtain ⟨o, h1, h2⟩ := hw'.1 c B hB
          have hne : c ≠ b := by rintro rfl; rw [hb] at h1; cases h1; obtain ⟨_, _, _, _, h3, _⟩ := h2; cases h3
          exact ⟨o, by rw [World.putObj_heap_other hne]; exact h1, h2⟩
        · simp only [Mem.updO] at hy
          split at hy
          · cases hy
          · rename_i hne
            obtain ⟨h1, h2⟩ := hw'.2 c y hy
            exact ⟨h1, by rw [World.putObj_heap_other hne]; exact h2⟩
      · exact hq.elim
    cases x <;> simp only [endQ] at hq
    · exact key hq
    · exact key hq
end
end Go.Proofs.YtgkolnknobgcmaaGreatV
end
section
namespace Go.Proofs.YtgkolnknobgcmaaGreatV
open Go

section
variable {P : Program} {H : Mem}

def isBool : Option TypeDesc → Bool
  | some .bool => true
  | _ => false
def isPtr : Option TypeDesc → Bool
  | some (.pointer _) => true
  | _ => false
def isSl : Option TypeDesc → Bool
  | some (.slice _) => true
  | _ => false
def lenA : Option TypeDesc → Option Value
  | some (.array n _) => some (.int .i64 n)
  | _ => none
def fadrK (a : Addr) : Option (Nat × Bool × Nat) → Option Value
  | some (off, _, n) => if n = 0 then none else some (.pointer (some (a.add off)))
  | none => none
def fvalK (cs : List Value) : Option (Nat × Bool × Nat) → Option Value
  | some (off, b, n) => if off + n ≤ cs.length then partV cs off b n else none
  | none => none
def idxK (cs : List Value) (i : Int) : Option (Option Nat × Bool × Nat) → Option Value
  | some (some l, b, n) => if 0 ≤ i ∧ i < l then partV cs (i.toNat * n) b n else none
  | _ => none
def idxAK (sl : Bool) (a : Addr) (len : Nat) (i : Int) : Option (Option Nat × Bool × Nat) → Option Value
  | some (none, _, n) => if sl = true ∧ 0 ≤ i ∧ i < len then some (.pointer (some (a.add (i.toNat * n)))) else none
  | some (some l, _, n) => if sl = false ∧ 0 ≤ i ∧ i < l then some (.pointer (some (a.add (i.toNat * n)))) else none
  | none => none
def slcS (d : Option TypeDesc) (s : ByteArray) (l h : Int) : Option Value :=
  if isStr d = true ∧ 0 ≤ l ∧ l ≤ h ∧ h ≤ s.size then some (.string (s.extract l.toNat h.toNat)) else none
def slcL (t : Option (Option Nat × Bool × Nat)) (a : Option Addr) (cap : Nat) (l h : Int) : Option Value :=
  match t with
  | some (none, _, n) => if 0 ≤ l ∧ l ≤ h ∧ h ≤ cap then some (.slice (if cap = l.toNat then a else a.map (·.add (l.toNat * n))) (h.toNat - l.toNat) (cap - l.toNat)) else none
  | _ => none
def bldK (l : Option (List (Nat × Nat))) (e : Option (Option Nat × Bool × Nat)) (z : Option (List Value)) (parts : List (Nat × Value)) : Option Value :=
  match l, e, z with
  | some l, _, some z => (fillL (fun i => l[i]?) z parts).map fun cs => .agg cs.toArray
  | none, some (some _, _, n), some z => (fillL (fun i => some (i * n, n)) z parts).map fun cs => .agg cs.toArray
  | _, _, _ => none
def fillK (pl : Nat → Option (Nat × Nat)) (cs : List Value) (v : Value) (r : List (Nat × Value)) : Option (Nat × Nat) → Option (List Value)
  | none => none
  | some (off, n) => if v.cells.size = n ∧ off + n ≤ cs.length then fillL pl (splice cs off v.cells.toList) r else none
def fillC (pl : Nat → Option (Nat × Nat)) (cs vs : List Value) (m n off : Nat) (r : List (Nat × Value)) : Option (List Value) :=
  if m = n ∧ off + n ≤ cs.length then fillL pl (splice cs off vs) r else none
def storeC (H : Mem) (a : Addr) (m n : Nat) (ok : Bool) (vs : List Value) (K : Mem → Prop) (_x : Bx K := ⟨⟩) : Prop := m = n ∧ ok = true ∧ memK (H.write a vs) K
def cellR (H : Mem) (t : Option (Bool × Nat)) (p : Value) (rest : Option (List Value)) : Option (List Value) := match t, p with
  | some (b, n), .pointer (some ad) => (H.read ad n).bind fun vs => match b, vs with
    | true, vs => rest.map (.agg vs.toArray :: ·)
    | false, [v] => rest.map (v :: ·)
    | _, _ => none
  | _, _ => none
def cellA : Option (List Value) → Option (List Value) → Option (List Value)
  | some vs, some l => some (.agg vs.toArray :: l)
  | _, _ => none
def cellB : Option (List Value) → Option (List Value) → Option (List Value)
  | some [v], some l => some (v :: l)
  | _, _ => none
theorem upd_comm {H : Mem} {n m : Nat} {B C : Blk} (h : m ≠ n) : (H.upd n B).upd m C = (H.upd m C).upd n B := by
  simp only [Mem.upd, Mem.mk.injEq, and_true]
  funext c
  by_cases h1 : c = m
  · subst h1; simp [h]
  · simp [h1]
theorem CondW_true : ∀ {A B : Prop} {x : Bx A} {y : Bx B}, CondW true A B x y = A := by intros; simp [CondW]
theorem CondW_false : ∀ {A B : Prop} {x : Bx A} {y : Bx B}, CondW false A B x y = B := by intros; simp [CondW]
theorem GuardW_t : ∀ {b : Bool} {A B : Prop} {x : Bx A} {y : Bx B}, GuardW (.bool b) true A B x y = CondW b A B := by intro b; intros; cases b <;> simp [GuardW, CondW]
theorem GuardW_f : ∀ {b : Bool} {A B : Prop} {x : Bx A} {y : Bx B}, GuardW (.bool b) false A B x y = CondW b B A := by intro b; intros; cases b <;> simp [GuardW, CondW]
theorem GuardW_u : ∀ {want : Bool} {A B : Prop} {x : Bx A} {y : Bx B}, GuardW (.tuple #[]) want A B x y = B := by intros; rfl
theorem optK_s : ∀ {v : Value} {K : Value → Prop} {x : Bx K}, optK (some v) K x = K v := by intros; rfl
theorem elseK_s : ∀ {v : Value} {K : Value → Prop} {F : Prop} {x : Bx K} {y : Bx F}, elseK (some v) K F x y = K v := by intros; rfl
theorem elseK_n : ∀ {K : Value → Prop} {F : Prop} {x : Bx K} {y : Bx F}, elseK none K F x y = F := by intros; rfl
theorem boolK_b : ∀ {b : Bool} {K : Bool → Prop} {x : Bx K}, boolK (.bool b) K x = K b := by intros; rfl
theorem readK_1 : ∀ {v : Value} {K : Value → Prop} {x : Bx K}, readK (some [v]) false K x = K v := by intros; simp [readK]
theorem readK_n : ∀ {vs : List Value} {K : Value → Prop} {x : Bx K}, readK (some vs) true K x = K (.agg vs.toArray) := by intros; simp [readK]
theorem memK_s : ∀ {H : Mem} {K : Mem → Prop} {x : Bx K}, memK (some H) K x = K H := by intros; rfl
theorem retK_s : ∀ {vs : List Value} {K : Value → Prop} {x : Bx K}, retK (some vs) K x = K (tupV vs) := by intros; rfl
theorem set_get : ∀ (e : Env) (t : Nat) (v : Value) (s : Nat), (Env.set e t v) s = if s = t then v else e s := fun _ _ _ _ => rfl
theorem put_some : ∀ (e : Env) (t : Nat) (v : Value), Env.put e (some t) v = Env.set e t v := fun _ _ _ => rfl
theorem put_none : ∀ (e : Env) (v : Value), Env.put e none v = e := fun _ _ => rfl
theorem thenQ_n : ∀ {K : Env → Mem → Prop} {Q : Exit → Env → Mem → Prop}, thenQ K Q .normal = K := by intros; rfl
theorem thenQ_x : ∀ {K : Env → Mem → Prop} {Q : Exit → Env → Mem → Prop} {id : Nat}, thenQ K Q (.exit id) = Q (.exit id) := by intros; rfl
theorem thenQ_r : ∀ {K : Env → Mem → Prop} {Q : Exit → Env → Mem → Prop}, thenQ K Q .ret = Q .ret := by intros; rfl
theorem blockQ_n : ∀ {id : Nat} {Q : Exit → Env → Mem → Prop}, blockQ id Q .normal = Q .normal := by intros; rfl
theorem blockQ_r : ∀ {id : Nat} {Q : Exit → Env → Mem → Prop}, blockQ id Q .ret = Q .ret := by intros; rfl
theorem blockQ_x : ∀ {id id2 : Nat} {Q : Exit → Env → Mem → Prop}, blockQ id Q (.exit id2) = if id2 = id then Q .normal else Q (.exit id2) := by intros; rfl
theorem endQ_n : ∀ {rs : List ResultVar} {K : Value → Mem → Prop} {e : Env} {H : Mem}, endQ P rs K .normal e H = leaveK e.ds H fun H => retK (retVals P H e rs) fun v => K v H := by intros; rfl
theorem endQ_r : ∀ {rs : List ResultVar} {K : Value → Mem → Prop} {e : Env} {H : Mem}, endQ P rs K .ret e H = leaveK e.ds H fun H => retK (retVals P H e rs) fun v => K v H := by intros; rfl
theorem ret0 : ∀ {e : Env} {H : Mem}, retVals P H e [] = some [] := by intros; rfl
theorem retT : ∀ {e : Env} {H : Mem} {t : Nat} {r : List ResultVar}, retVals P H e (.tmp t :: r) = (retVals P H e r).map (e t :: ·) := by intros; rfl
theorem retC : ∀ {e : Env} {H : Mem} {a : Nat} {T : TypeId} {r : List ResultVar}, retVals P H e (.cell a T :: r) = cellR H (ty P T) (e a) (retVals P H e r) := by intro e H a T r; simp only [retVals, cellR]; all_goals (generalize ty P T = t; generalize e.get a = v; rcases t with _ | ⟨b, n⟩ <;> first | rfl | (cases v <;> first | rfl | (rename_i o; cases o <;> first | rfl | (rename_i ad; generalize H.read ad n = q; cases b <;> cases q <;> first | rfl | (rename_i vs; rcases vs with _ | ⟨v, _ | ⟨u, r⟩⟩ <;> rfl)))))
theorem celA : ∀ {H : Mem} {n : Nat} {ad : Addr} {rest : Option (List Value)}, cellR H (some (true, n)) (.pointer (some ad)) rest = cellA (H.read ad n) rest := by intro H n ad rest; cases h : H.read ad n <;> cases rest <;> simp [cellR, cellA, h]
theorem celB : ∀ {H : Mem} {n : Nat} {ad : Addr} {rest : Option (List Value)}, cellR H (some (false, n)) (.pointer (some ad)) rest = cellB (H.read ad n) rest := by intro H n ad rest; rcases h : H.read ad n with _ | ⟨_ | ⟨v, _ | ⟨u, r⟩⟩⟩ <;> cases rest <;> simp [cellR, cellB, h]
theorem celA1 : ∀ {vs l : List Value}, cellA (some vs) (some l) = some (.agg vs.toArray :: l) := by intros; rfl
theorem celB1 : ∀ {v : Value} {l : List Value}, cellB (some [v]) (some l) = some (v :: l) := by intros; rfl
theorem tup1 : ∀ {v : Value}, tupV [v] = v := by intros; rfl
theorem tup0 : tupV [] = .tuple #[] := rfl
theorem tup2 : ∀ {u v : Value} {r : List Value}, tupV (u :: v :: r) = .tuple (u :: v :: r).toArray := by intros; rfl
theorem initE_get : ∀ {as : List Value} {t : Nat}, (initE as) t = as[t]?.getD undef := by intros; rfl
theorem set_ds : ∀ (e : Env) (t : Nat) (v : Value), (Env.set e t v).ds = e.ds := fun _ _ _ => rfl
theorem init_ds : ∀ {as : List Value}, (initE as).ds = [] := by intros; rfl
theorem leave0 : ∀ {H : Mem} {K : Mem → Prop} {x : Bx K}, leaveK [] H K x = K H := by intros; rfl
theorem leaveM : ∀ {b : Nat} {as : Array Value} {H : Mem} {K : Mem → Prop} {x : Bx K}, leaveK [⟨.collected b, as⟩] H K x = (H.o b = some (.deferred (some [])) ∧ K (H.updO b none)) := by intros; rfl
theorem uoc : ∀ {H : Mem} {b m : Nat} {y : Option Obj}, (H.updO b y) m = H m := by intros; rfl
theorem uor : ∀ {H : Mem} {b : Nat} {y : Option Obj} {a : Addr} {k : Nat}, (H.updO b y).read a k = H.read a k := by intros; rfl
theorem uow : ∀ {H : Mem} {b : Nat} {y : Option Obj} {a : Addr} {vs : List Value}, (H.updO b y).write a vs = (H.write a vs).map (·.updO b y) := by intro H b y a vs; obtain ⟨k, o, s⟩ := a; cases s with | some _ => rfl | none => (simp only [Mem.write, Mem.updO]; cases H.c k with | none => rfl | some B => (simp only [Option.bind_some, Option.map_map]; rfl))
theorem uoo : ∀ {H : Mem} {b : Nat} {y : Option Obj}, (H.updO b y).o b = y := by intros; simp [Mem.updO]
theorem uou : ∀ {H : Mem} {n : Nat} {B : Blk}, (H.upd n B).o = H.o := by intros; rfl
theorem uoe : ∀ {H : Mem} {b : Nat} {x y : Option Obj}, (H.updO b x).updO b y = H.updO b y := by intro H b x y; simp only [Mem.updO, Mem.mk.injEq, true_and, and_true]; funext c; split <;> rfl
theorem ev_t : ∀ {e : Env} {t : Nat}, ev e (.tmp t) = e t := by intros; rfl
theorem ev_c : ∀ {e : Env} {v : Value}, ev e (.const v) = v := by intros; rfl
theorem ev_f : ∀ {e : Env} {f : FuncId}, ev e (.func f) = .func (.func f) #[] #[] := by intros; rfl
theorem gval_eq : ∀ {ops : List Oper} {e : Env} {j : Nat}, gval ops e j = match (ops[j]?).bind (·.dst) with | some d => e d | none => undef := by intros; rfl
theorem ops0 : ∀ {all : List Oper} {e : Env} {H : Mem} {K : Env → Mem → Prop}, pwOps P all [] e H K = K e H := by intros; rfl
theorem opsN : ∀ {all r : List Oper} {e : Env} {H : Mem} {K : Env → Mem → Prop} {d : Option Tmp} {op : Op} {T : TypeId} {p : String} {a : Array Edge}, pwOps P all (⟨d, op, T, p, a, none⟩ :: r) e H K = opW P e H ⟨d, op, T, p, a, none⟩ fun v H2 => pwOps P all r (e.put d v) H2 K := by intros; rfl
theorem opsG : ∀ {all r : List Oper} {e : Env} {H : Mem} {K : Env → Mem → Prop} {d : Option Tmp} {op : Op} {T : TypeId} {p : String} {a : Array Edge} {j : Nat} {want : Bool}, pwOps P all (⟨d, op, T, p, a, some (j, want)⟩ :: r) e H K = GuardW (gval all e j) want (opW P e H ⟨d, op, T, p, a, some (j, want)⟩ fun v H2 => pwOps P all r (e.put d v) H2 K) (pwOps P all r (e.put d undef) H K) := by intros; rfl
theorem op_move : ∀ {e : Env} {H : Mem} {K : Value → Mem → Prop} {y : Bx K} {d : Option Tmp} {U : TypeId} {p : String} {ed : Array Edge} {g : Option (Nat × Bool)} {x : Operand}, opW P e H ⟨d, .move x, U, p, ed, g⟩ K y = K (ev e x) H := by intros; rfl
theorem op_assign : ∀ {e : Env} {H : Mem} {K : Value → Mem → Prop} {y : Bx K} {d : Option Tmp} {U : TypeId} {p : String} {ed : Array Edge} {g : Option (Nat × Bool)} {x : Operand}, opW P e H ⟨d, .assign x, U, p, ed, g⟩ K y = K (ev e x) H := by intros; rfl
theorem op_pick : ∀ {e : Env} {H : Mem} {K : Value → Mem → Prop} {y : Bx K} {d : Option Tmp} {U : TypeId} {p : String} {ed : Array Edge} {g : Option (Nat × Bool)} {c a b : Operand}, opW P e H ⟨d, .pick c a b, U, p, ed, g⟩ K y = boolK (ev e c) fun t => K (if t then ev e a else ev e b) H := by intros; rfl
theorem op_bin : ∀ {e : Env} {H : Mem} {K : Value → Mem → Prop} {y : Bx K} {d : Option Tmp} {U : TypeId} {p : String} {ed : Array Edge} {g : Option (Nat × Bool)} {o : BinOp} {T W : TypeId} {x z : Operand}, opW P e H ⟨d, .binOp o T x z W, U, p, ed, g⟩ K y = elseK (bin P o T (ev e x) (ev e z)) (fun v => K v H) (SemW P (execOp (ev e) ⟨d, .binOp o T x z W, U, p, ed, g⟩) H K) := by intros; rfl
theorem op_un : ∀ {e : Env} {H : Mem} {K : Value → Mem → Prop} {y : Bx K} {d : Option Tmp} {U : TypeId} {p : String} {ed : Array Edge} {g : Option (Nat × Bool)} {o : UnOp} {T : TypeId} {x : Operand}, opW P e H ⟨d, .unOp o T x, U, p, ed, g⟩ K y = optK (un o (ev e x)) fun v => K v H := by intros; rfl
theorem op_conv : ∀ {e : Env} {H : Mem} {K : Value → Mem → Prop} {y : Bx K} {d : Option Tmp} {U : TypeId} {p : String} {ed : Array Edge} {g : Option (Nat × Bool)} {s t : TypeId} {x : Operand}, opW P e H ⟨d, .convert s t x, U, p, ed, g⟩ K y = elseK (conv (P.underlying s) (P.underlying t) (ev e x)) (fun v => K v H) (ValW P (convert s t (ev e x)) H K) := by intros; rfl
theorem op_index : ∀ {e : Env} {H : Mem} {K : Value → Mem → Prop} {y : Bx K} {d : Option Tmp} {U : TypeId} {p : String} {ed : Array Edge} {g : Option (Nat × Bool)} {T : TypeId} {x i : Operand}, opW P e H ⟨d, .index T x i, U, p, ed, g⟩ K y = optK (idx P T (ev e x) (ev e i)) fun v => K v H := by intros; rfl
theorem op_indexA : ∀ {e : Env} {H : Mem} {K : Value → Mem → Prop} {y : Bx K} {d : Option Tmp} {U : TypeId} {p : String} {ed : Array Edge} {g : Option (Nat × Bool)} {T : TypeId} {x i : Operand}, opW P e H ⟨d, .indexAddr T x i, U, p, ed, g⟩ K y = optK (idxA P T (ev e x) (ev e i)) fun v => K v H := by intros; rfl
theorem op_slice : ∀ {e : Env} {H : Mem} {K : Value → Mem → Prop} {y : Bx K} {d : Option Tmp} {U : TypeId} {p : String} {ed : Array Edge} {g : Option (Nat × Bool)} {T : TypeId} {x : Operand} {lo hi : Option Operand}, opW P e H ⟨d, .slice T x lo hi none, U, p, ed, g⟩ K y = elseK (slc P T (ev e x) (lo.map (ev e)) (hi.map (ev e))) (fun v => K v H) (ValW P (Instr.sliceAt T (ev e x) (lo.map (ev e)) (hi.map (ev e)) none) H K) := by intros; rfl
theorem op_fadr : ∀ {e : Env} {H : Mem} {K : Value → Mem → Prop} {y : Bx K} {d : Option Tmp} {U : TypeId} {p : String} {ed : Array Edge} {g : Option (Nat × Bool)} {T : TypeId} {x : Operand} {i : Nat}, opW P e H ⟨d, .fieldAddr T x i, U, p, ed, g⟩ K y = optK (fadr P T (ev e x) i) fun v => K v H := by intros; rfl
theorem op_field : ∀ {e : Env} {H : Mem} {K : Value → Mem → Prop} {y : Bx K} {d : Option Tmp} {U : TypeId} {p : String} {ed : Array Edge} {g : Option (Nat × Bool)} {T : TypeId} {x : Operand} {i : Nat}, opW P e H ⟨d, .field T x i, U, p, ed, g⟩ K y = optK (fval P T (ev e x) i) fun v => K v H := by intros; rfl
theorem op_extr : ∀ {e : Env} {H : Mem} {K : Value → Mem → Prop} {y : Bx K} {d : Option Tmp} {U : TypeId} {p : String} {ed : Array Edge} {g : Option (Nat × Bool)} {x : Operand} {i : Nat}, opW P e H ⟨d, .extract x i, U, p, ed, g⟩ K y = optK (extr (ev e x) i) fun v => K v H := by intros; rfl
theorem op_nilc : ∀ {e : Env} {H : Mem} {K : Value → Mem → Prop} {y : Bx K} {d : Option Tmp} {U : TypeId} {p : String} {ed : Array Edge} {g : Option (Nat × Bool)} {x : Operand}, opW P e H ⟨d, .nilCheck x, U, p, ed, g⟩ K y = optK (nilc (ev e x)) fun v => K v H := by intros; rfl
theorem op_mkf : ∀ {e : Env} {H : Mem} {K : Value → Mem → Prop} {y : Bx K} {d : Option Tmp} {U : TypeId} {p : String} {ed : Array Edge} {g : Option (Nat × Bool)} {fn : Fn} {first cap : Array Operand}, opW P e H ⟨d, .makeFunc fn first cap, U, p, ed, g⟩ K y = K (.func fn (first.map (ev e)) (cap.map (ev e))) H := by intros; rfl
theorem op_build : ∀ {e : Env} {H : Mem} {K : Value → Mem → Prop} {y : Bx K} {d : Option Tmp} {U : TypeId} {p : String} {ed : Array Edge} {g : Option (Nat × Bool)} {T : TypeId} {parts : Array (Nat × Operand)}, opW P e H ⟨d, .build T parts, U, p, ed, g⟩ K y = optK (bld P T (parts.toList.map fun (i, x) => (i, ev e x))) fun v => K v H := by intros; rfl
theorem op_load : ∀ {e : Env} {H : Mem} {K : Value → Mem → Prop} {y : Bx K} {d : Option Tmp} {U : TypeId} {p : String} {ed : Array Edge} {g : Option (Nat × Bool)} {T : TypeId} {a : Operand}, opW P e H ⟨d, .load T a, U, p, ed, g⟩ K y = loadW H (ty P T) (ev e a) fun v => K v H := by intros; rfl
theorem op_store : ∀ {e : Env} {H : Mem} {K : Value → Mem → Prop} {y : Bx K} {d : Option Tmp} {U : TypeId} {p : String} {ed : Array Edge} {g : Option (Nat × Bool)} {T : TypeId} {a x : Operand}, opW P e H ⟨d, .store T a x, U, p, ed, g⟩ K y = storeW H (ty P T) (ev e a) (ev e x) fun H2 => K undef H2 := by intros; rfl
theorem op_box : ∀ {e : Env} {H : Mem} {K : Value → Mem → Prop} {y : Bx K} {d : Option Tmp} {U : TypeId} {p : String} {ed : Array Edge} {g : Option (Nat × Bool)} {T : TypeId} {x : Operand}, opW P e H ⟨d, .box T x, U, p, ed, g⟩ K y = NewW H fun n => K (.pointer (some ⟨n, 0, none⟩)) (H.upd n ⟨true, (ev e x).cells.size, (ev e x).cells.toList⟩) := by intros; rfl
theorem op_alloc : ∀ {e : Env} {H : Mem} {K : Value → Mem → Prop} {y : Bx K} {d : Option Tmp} {U : TypeId} {p : String} {ed : Array Edge} {g : Option (Nat × Bool)} {T : TypeId}, opW P e H ⟨d, .alloc T, U, p, ed, g⟩ K y = allocW H (tzero P T) fun n z => K (.pointer (some ⟨n, 0, none⟩)) (H.upd n ⟨true, z.length, z⟩) := by intros; rfl
theorem op_call : ∀ {e : Env} {H : Mem} {K : Value → Mem → Prop} {y : Bx K} {d : Option Tmp} {U : TypeId} {p : String} {ed : Array Edge} {g : Option (Nat × Bool)} {f : Operand} {as : Array Operand} {ts : Array TypeId}, opW P e H ⟨d, .call ⟨.value f, as, ts⟩, U, p, ed, g⟩ K y = funK P (ev e f) (as.map (ev e)) H K (SemW P (execOp (ev e) ⟨d, .call ⟨.value f, as, ts⟩, U, p, ed, g⟩) H K) := by intros; rfl
theorem op_len : ∀ {e : Env} {H : Mem} {K : Value → Mem → Prop} {y : Bx K} {d : Option Tmp} {U : TypeId} {p : String} {ed : Array Edge} {g : Option (Nat × Bool)} {x : Operand} {T : TypeId}, opW P e H ⟨d, .call ⟨.builtin .len, #[x], #[T]⟩, U, p, ed, g⟩ K y = optK (lenV P T (ev e x)) fun v => K v H := by intros; rfl
theorem op_min : ∀ {e : Env} {H : Mem} {K : Value → Mem → Prop} {y : Bx K} {d : Option Tmp} {U : TypeId} {p : String} {ed : Array Edge} {g : Option (Nat × Bool)} {as : Array Operand} {ts : Array TypeId}, opW P e H ⟨d, .call ⟨.builtin .min, as, ts⟩, U, p, ed, g⟩ K y = optK (minmax false (as.toList.map (ev e))) fun v => K v H := by intros; rfl
theorem op_max : ∀ {e : Env} {H : Mem} {K : Value → Mem → Prop} {y : Bx K} {d : Option Tmp} {U : TypeId} {p : String} {ed : Array Edge} {g : Option (Nat × Bool)} {as : Array Operand} {ts : Array TypeId}, opW P e H ⟨d, .call ⟨.builtin .max, as, ts⟩, U, p, ed, g⟩ K y = optK (minmax true (as.toList.map (ev e))) fun v => K v H := by intros; rfl
theorem op_append : ∀ {e : Env} {H : Mem} {K : Value → Mem → Prop} {y : Bx K} {d : Option Tmp} {U : TypeId} {p : String} {ed : Array Edge} {g : Option (Nat × Bool)} {as : Array Operand} {ts : Array TypeId}, opW P e H ⟨d, .call ⟨.builtin .append, as, ts⟩, U, p, ed, g⟩ K y = SemW P (execOp (ev e) ⟨d, .call ⟨.builtin .append, as, ts⟩, U, p, ed, g⟩) H K := by intros; rfl
theorem op_copy : ∀ {e : Env} {H : Mem} {K : Value → Mem → Prop} {y : Bx K} {d : Option Tmp} {U : TypeId} {p : String} {ed : Array Edge} {g : Option (Nat × Bool)} {as : Array Operand} {ts : Array TypeId}, opW P e H ⟨d, .call ⟨.builtin .copy, as, ts⟩, U, p, ed, g⟩ K y = SemW P (execOp (ev e) ⟨d, .call ⟨.builtin .copy, as, ts⟩, U, p, ed, g⟩) H K := by intros; rfl
theorem op_cap : ∀ {e : Env} {H : Mem} {K : Value → Mem → Prop} {y : Bx K} {d : Option Tmp} {U : TypeId} {p : String} {ed : Array Edge} {g : Option (Nat × Bool)} {as : Array Operand} {ts : Array TypeId}, opW P e H ⟨d, .call ⟨.builtin .cap, as, ts⟩, U, p, ed, g⟩ K y = SemW P (execOp (ev e) ⟨d, .call ⟨.builtin .cap, as, ts⟩, U, p, ed, g⟩) H K := by intros; rfl
theorem op_mks : ∀ {e : Env} {H : Mem} {K : Value → Mem → Prop} {y : Bx K} {d : Option Tmp} {U : TypeId} {p : String} {ed : Array Edge} {g : Option (Nat × Bool)} {T : TypeId} {l c : Operand}, opW P e H ⟨d, .makeSlice T l c, U, p, ed, g⟩ K y = SemW P (execOp (ev e) ⟨d, .makeSlice T l c, U, p, ed, g⟩) H K := by intros; rfl
theorem op_bsl : ∀ {e : Env} {H : Mem} {K : Value → Mem → Prop} {y : Bx K} {d : Option Tmp} {U : TypeId} {p : String} {ed : Array Edge} {g : Option (Nat × Bool)} {T : TypeId} {l : Nat} {ps : Array (Nat × Operand)}, opW P e H ⟨d, .buildSlice T l ps, U, p, ed, g⟩ K y = SemW P (execOp (ev e) ⟨d, .buildSlice T l ps, U, p, ed, g⟩) H K := by intros; rfl
theorem op_slice3 : ∀ {e : Env} {H : Mem} {K : Value → Mem → Prop} {y : Bx K} {d : Option Tmp} {U : TypeId} {p : String} {ed : Array Edge} {g : Option (Nat × Bool)} {T : TypeId} {x m : Operand} {lo hi : Option Operand}, opW P e H ⟨d, .slice T x lo hi (some m), U, p, ed, g⟩ K y = SemW P (execOp (ev e) ⟨d, .slice T x lo hi (some m), U, p, ed, g⟩) H K := by intros; rfl
theorem pw_skip : ∀ {n : Nat} {r : Option Nat} {Q : Exit → Env → Mem → Prop} {e : Env} {H : Mem} , pw P n r (.skip) Q e H = Q .normal e H := by intros; rfl
theorem pw_region : ∀ {n : Nat} {r : Option Nat} {Q : Exit → Env → Mem → Prop} {e : Env} {H : Mem} {id : Nat} {ops : Array Oper}, pw P n r (.region id ops false) Q e H = pwOps P ops.toList ops.toList e H (Q .normal) := by intros; simp [pw]
theorem pw_draw : ∀ {n : Nat} {r : Option Nat} {Q : Exit → Env → Mem → Prop} {e : Env} {H : Mem} {id : Nat} {ops : Array Oper}, pw P n r (.region id ops true) Q e H = CodeW P n r (.region id ops true) Q e H := by intros; simp [pw]
theorem pw_seq : ∀ {n : Nat} {r : Option Nat} {Q : Exit → Env → Mem → Prop} {e : Env} {H : Mem} {a b : Code}, pw P n r (.seq a b) Q e H = pw P n r a (thenQ (pw P n r b Q) Q) e H := by intros; rfl
theorem pw_cond : ∀ {n : Nat} {r : Option Nat} {Q : Exit → Env → Mem → Prop} {e : Env} {H : Mem} {c : Operand} {a b : Code}, pw P n r (.cond c a b) Q e H = boolK (ev e c) fun t => CondW t (pw P n r a Q e H) (pw P n r b Q e H) := by intros; rfl
theorem pw_block : ∀ {n : Nat} {r : Option Nat} {Q : Exit → Env → Mem → Prop} {e : Env} {H : Mem} {id : Nat} {c : Code}, pw P n r (.block id c) Q e H = pw P n r c (blockQ id Q) e H := by intros; rfl
theorem pw_exit : ∀ {n : Nat} {r : Option Nat} {Q : Exit → Env → Mem → Prop} {e : Env} {H : Mem} {id : Nat}, pw P n r (.exit id) Q e H = Q (.exit id) e H := by intros; rfl
theorem pw_ret : ∀ {n : Nat} {r : Option Nat} {Q : Exit → Env → Mem → Prop} {e : Env} {H : Mem} , pw P n r (.ret) Q e H = Q .ret e H := by intros; rfl
theorem pw_loop : ∀ {n : Nat} {r : Option Nat} {Q : Exit → Env → Mem → Prop} {e : Env} {H : Mem} {c : Code}, pw P n r (.loop c) Q e H = CodeW P n r (.loop c) Q e H := by intros; rfl
theorem pw_rangef : ∀ {n : Nat} {r : Option Nat} {Q : Exit → Env → Mem → Prop} {e : Env} {H : Mem} {f : Operand} {ps : Array Tmp} {a b : Code}, pw P n r (.rangeFunc f ps a b) Q e H = CodeW P n r (.rangeFunc f ps a b) Q e H := by intros; rfl
theorem badd : ∀ {T : TypeId} {k : IntKind} {a b : Int}, bin P .add T (.int k a) (.int k b) = some (.int k (k.wrap (a + b))) := by intros; simp [bin, binI]
theorem bsub : ∀ {T : TypeId} {k : IntKind} {a b : Int}, bin P .sub T (.int k a) (.int k b) = some (.int k (k.wrap (a - b))) := by intros; simp [bin, binI]
theorem bmul : ∀ {T : TypeId} {k : IntKind} {a b : Int}, bin P .mul T (.int k a) (.int k b) = some (.int k (k.wrap (a * b))) := by intros; simp [bin, binI]
theorem beql : ∀ {T : TypeId} {k : IntKind} {a b : Int}, bin P .eql T (.int k a) (.int k b) = some (.bool (a == b)) := by intros; simp [bin, binI]
theorem bneq : ∀ {T : TypeId} {k : IntKind} {a b : Int}, bin P .neq T (.int k a) (.int k b) = some (.bool (a != b)) := by intros; simp [bin, binI]
theorem blss : ∀ {T : TypeId} {k : IntKind} {a b : Int}, bin P .lss T (.int k a) (.int k b) = some (.bool (decide (a < b))) := by intros; simp [bin, binI]
theorem bleq : ∀ {T : TypeId} {k : IntKind} {a b : Int}, bin P .leq T (.int k a) (.int k b) = some (.bool (decide (a ≤ b))) := by intros; simp [bin, binI]
theorem bgtr : ∀ {T : TypeId} {k : IntKind} {a b : Int}, bin P .gtr T (.int k a) (.int k b) = some (.bool (decide (b < a))) := by intros; simp [bin, binI]
theorem bgeq : ∀ {T : TypeId} {k : IntKind} {a b : Int}, bin P .geq T (.int k a) (.int k b) = some (.bool (decide (b ≤ a))) := by intros; simp [bin, binI]
theorem band : ∀ {T : TypeId} {k : IntKind} {a b : Int}, bin P .and T (.int k a) (.int k b) = some (.int k (bitI .and k a b)) := by intros; simp [bin, binI]
theorem bor : ∀ {T : TypeId} {k : IntKind} {a b : Int}, bin P .or T (.int k a) (.int k b) = some (.int k (bitI .or k a b)) := by intros; simp [bin, binI]
theorem bxor : ∀ {T : TypeId} {k : IntKind} {a b : Int}, bin P .xor T (.int k a) (.int k b) = some (.int k (bitI .xor k a b)) := by intros; simp [bin, binI]
theorem bandNot : ∀ {T : TypeId} {k : IntKind} {a b : Int}, bin P .andNot T (.int k a) (.int k b) = some (.int k (bitI .andNot k a b)) := by intros; simp [bin, binI]
theorem bquo : ∀ {T : TypeId} {k : IntKind} {a b : Int}, b ≠ 0 → bin P .quo T (.int k a) (.int k b) = some (.int k (k.wrap (a.tdiv b))) := by intro _ _ _ _ h; simp [bin, binI, h]
theorem brem : ∀ {T : TypeId} {k : IntKind} {a b : Int}, b ≠ 0 → bin P .rem T (.int k a) (.int k b) = some (.int k (a.tmod b)) := by intro _ _ _ _ h; simp [bin, binI, h]
theorem bshl_i64 : ∀ {T : TypeId} {j : IntKind} {a b : Int}, 0 ≤ b ∧ b ≤ 64 → bin P .shl T (.int .i64 a) (.int j b) = some (.int .i64 (IntKind.i64.wrap (a * 2 ^ b.toNat))) := by intro _ _ _ b h; simp only [bin, binI, Int.not_lt.2 h.1, if_false]; rw [show min b.toNat IntKind.i64.bits = b.toNat from by simp only [IntKind.bits]; omega]
theorem bshr_i64 : ∀ {T : TypeId} {j : IntKind} {a b : Int}, 0 ≤ b ∧ b ≤ 64 → bin P .shr T (.int .i64 a) (.int j b) = some (.int .i64 (a / 2 ^ b.toNat)) := by intro _ _ a b h; simp only [bin, binI, Int.not_lt.2 h.1, if_false]; rw [show min b.toNat IntKind.i64.bits = b.toNat from by simp only [IntKind.bits]; omega, Int.fdiv_eq_ediv_of_nonneg _ (Int.le_of_lt (Int.pow_pos (by decide)))]
theorem bshl_u8 : ∀ {T : TypeId} {j : IntKind} {a b : Int}, 0 ≤ b ∧ b ≤ 8 → bin P .shl T (.int .u8 a) (.int j b) = some (.int .u8 (IntKind.u8.wrap (a * 2 ^ b.toNat))) := by intro _ _ _ b h; simp only [bin, binI, Int.not_lt.2 h.1, if_false]; rw [show min b.toNat IntKind.u8.bits = b.toNat from by simp only [IntKind.bits]; omega]
theorem bshr_u8 : ∀ {T : TypeId} {j : IntKind} {a b : Int}, 0 ≤ b ∧ b ≤ 8 → bin P .shr T (.int .u8 a) (.int j b) = some (.int .u8 (a / 2 ^ b.toNat)) := by intro _ _ a b h; simp only [bin, binI, Int.not_lt.2 h.1, if_false]; rw [show min b.toNat IntKind.u8.bits = b.toNat from by simp only [IntKind.bits]; omega, Int.fdiv_eq_ediv_of_nonneg _ (Int.le_of_lt (Int.pow_pos (by decide)))]
theorem bshl_u32 : ∀ {T : TypeId} {j : IntKind} {a b : Int}, 0 ≤ b ∧ b ≤ 32 → bin P .shl T (.int .u32 a) (.int j b) = some (.int .u32 (IntKind.u32.wrap (a * 2 ^ b.toNat))) := by intro _ _ _ b h; simp only [bin, binI, Int.not_lt.2 h.1, if_false]; rw [show min b.toNat IntKind.u32.bits = b.toNat from by simp only [IntKind.bits]; omega]
theorem bshr_u32 : ∀ {T : TypeId} {j : IntKind} {a b : Int}, 0 ≤ b ∧ b ≤ 32 → bin P .shr T (.int .u32 a) (.int j b) = some (.int .u32 (a / 2 ^ b.toNat)) := by intro _ _ a b h; simp only [bin, binI, Int.not_lt.2 h.1, if_false]; rw [show min b.toNat IntKind.u32.bits = b.toNat from by simp only [IntKind.bits]; omega, Int.fdiv_eq_ediv_of_nonneg _ (Int.le_of_lt (Int.pow_pos (by decide)))]
theorem bshl_i32 : ∀ {T : TypeId} {j : IntKind} {a b : Int}, 0 ≤ b ∧ b ≤ 32 → bin P .shl T (.int .i32 a) (.int j b) = some (.int .i32 (IntKind.i32.wrap (a * 2 ^ b.toNat))) := by intro _ _ _ b h; simp only [bin, binI, Int.not_lt.2 h.1, if_false]; rw [show min b.toNat IntKind.i32.bits = b.toNat from by simp only [IntKind.bits]; omega]
theorem bshr_i32 : ∀ {T : TypeId} {j : IntKind} {a b : Int}, 0 ≤ b ∧ b ≤ 32 → bin P .shr T (.int .i32 a) (.int j b) = some (.int .i32 (a / 2 ^ b.toNat)) := by intro _ _ a b h; simp only [bin, binI, Int.not_lt.2 h.1, if_false]; rw [show min b.toNat IntKind.i32.bits = b.toNat from by simp only [IntKind.bits]; omega, Int.fdiv_eq_ediv_of_nonneg _ (Int.le_of_lt (Int.pow_pos (by decide)))]
theorem bshl_u64 : ∀ {T : TypeId} {j : IntKind} {a b : Int}, 0 ≤ b ∧ b ≤ 64 → bin P .shl T (.int .u64 a) (.int j b) = some (.int .u64 (IntKind.u64.wrap (a * 2 ^ b.toNat))) := by intro _ _ _ b h; simp only [bin, binI, Int.not_lt.2 h.1, if_false]; rw [show min b.toNat IntKind.u64.bits = b.toNat from by simp only [IntKind.bits]; omega]
theorem bshr_u64 : ∀ {T : TypeId} {j : IntKind} {a b : Int}, 0 ≤ b ∧ b ≤ 64 → bin P .shr T (.int .u64 a) (.int j b) = some (.int .u64 (a / 2 ^ b.toNat)) := by intro _ _ a b h; simp only [bin, binI, Int.not_lt.2 h.1, if_false]; rw [show min b.toNat IntKind.u64.bits = b.toNat from by simp only [IntKind.bits]; omega, Int.fdiv_eq_ediv_of_nonneg _ (Int.le_of_lt (Int.pow_pos (by decide)))]
theorem seql : ∀ {T : TypeId} {s t : ByteArray}, bin P .eql T (.string s) (.string t) = some (.bool (decide (s = t))) := by intros; simp [bin, binS]
theorem sneq : ∀ {T : TypeId} {s t : ByteArray}, bin P .neq T (.string s) (.string t) = some (.bool (!decide (s = t))) := by intros; simp [bin, binS]
theorem slss : ∀ {T : TypeId} {s t : ByteArray}, bin P .lss T (.string s) (.string t) = some (.bool (Op.bytesLess s.toList t.toList)) := by intros; simp [bin, binS]
theorem sleq : ∀ {T : TypeId} {s t : ByteArray}, bin P .leq T (.string s) (.string t) = some (.bool (Op.bytesLess s.toList t.toList || decide (s = t))) := by intros; simp [bin, binS]
theorem sgtr : ∀ {T : TypeId} {s t : ByteArray}, bin P .gtr T (.string s) (.string t) = some (.bool (!(Op.bytesLess s.toList t.toList || decide (s = t)))) := by intros; simp [bin, binS]
theorem sgeq : ∀ {T : TypeId} {s t : ByteArray}, bin P .geq T (.string s) (.string t) = some (.bool (!Op.bytesLess s.toList t.toList)) := by intros; simp [bin, binS]
theorem sadd : ∀ {T : TypeId} {s t : ByteArray}, (s.size : Int) + t.size ≤ 9223372036854775807 → bin P .add T (.string s) (.string t) = some (.string (s ++ t)) := by intro _ _ _ h; simp only [bin, binS]; rw [if_pos h]
theorem beq : ∀ {T : TypeId} {a b : Bool}, bin P .eql T (.bool a) (.bool b) = if isBool (P.underlying T) = true then some (.bool (a == b)) else none := by intro T a b; unfold bin isBool; cases P.underlying T with | none => simp | some d => cases d <;> simp
theorem bne : ∀ {T : TypeId} {a b : Bool}, bin P .neq T (.bool a) (.bool b) = if isBool (P.underlying T) = true then some (.bool (!(a == b))) else none := by intro T a b; unfold bin isBool; cases P.underlying T with | none => simp | some d => cases d <;> simp
theorem isB : isBool (some .bool) = true := rfl
theorem peq : ∀ {T : TypeId} {a : Option Addr}, bin P .eql T (.pointer a) (.pointer none) = if isPtr (P.underlying T) = true then some (.bool a.isNone) else none := by intro T a; unfold bin isPtr; cases P.underlying T with | none => simp | some d => cases d <;> simp
theorem pne : ∀ {T : TypeId} {a : Option Addr}, bin P .neq T (.pointer a) (.pointer none) = if isPtr (P.underlying T) = true then some (.bool (!a.isNone)) else none := by intro T a; unfold bin isPtr; cases P.underlying T with | none => simp | some d => cases d <;> simp
theorem isP : ∀ {T : TypeId}, isPtr (some (.pointer T)) = true := by intros; rfl
theorem aggB : ∀ {o : BinOp} {T : TypeId} {a : Array Value} {v : Value}, bin P o T (.agg a) v = none := by intros; rfl
theorem unot : ∀ {b : Bool}, un .not (.bool b) = some (.bool (!b)) := by intros; rfl
theorem uneg : ∀ {k : IntKind} {n : Int}, un .neg (.int k n) = some (.int k (k.wrap (0 - n))) := by intros; rfl
theorem cint : ∀ {d : TypeDesc} {k j : IntKind} {n : Int}, conv (some d) (some (.int k)) (.int j n) = some (.int k (k.wrap n)) := by intros; rfl
theorem cstr : ∀ {d : TypeDesc} {s : ByteArray}, conv (some d) (some .string) (.string s) = some (.string s) := by intros; rfl
theorem csl : ∀ {d : TypeDesc} {T : TypeId} {v : Value}, conv (some d) (some (.slice T)) v = none := by intros; rfl
theorem cbs : ∀ {d : TypeDesc} {a : Option Addr} {n c : Nat}, conv (some d) (some .string) (.slice a n c) = none := by intros; rfl
theorem lstr : ∀ {T : TypeId} {s : ByteArray}, lenV P T (.string s) = if isStr (P.underlying T) = true then some (.int .i64 s.size) else lenA (P.underlying T) := by intro T s; unfold lenV isStr lenA; cases P.underlying T with | none => simp | some d => cases d <;> simp
theorem isS : isStr (some .string) = true := rfl
theorem lsl : ∀ {T : TypeId} {a : Option Addr} {n c : Nat}, lenV P T (.slice a n c) = if isSl (P.underlying T) = true then some (.int .i64 n) else lenA (P.underlying T) := by intro T a n c; unfold lenV isSl lenA; cases P.underlying T with | none => simp | some d => cases d <;> simp
theorem isL : ∀ {T : TypeId}, isSl (some (.slice T)) = true := by intros; rfl
theorem xt : ∀ {vs : List Value} {i : Nat}, extr (.tuple vs.toArray) i = vs[i]? := by intros; rfl
theorem nc : ∀ {a : Addr}, nilc (.pointer (some a)) = some (.pointer (some a)) := by intros; rfl
theorem ncf : ∀ {f : FuncId} {a b : Array Value}, nilc (.func (.func f) a b) = some (.func (.func f) a b) := by intros; rfl
theorem fdr : ∀ {T : TypeId} {a : Addr} {i : Nat}, fadr P T (.pointer (some a)) i = fadrK a (fld P T i) := by intro T a i; simp only [fadr, fadrK]; cases fld P T i with | none => rfl | some p => obtain ⟨x, y, z⟩ := p; rfl
theorem fdk : ∀ {a : Addr} {off n : Nat} {b : Bool}, fadrK a (some (off, b, n + 1)) = some (.pointer (some (a.add off))) := by intros; simp [fadrK]
theorem fvl : ∀ {T : TypeId} {cs : List Value} {i : Nat}, fval P T (.agg cs.toArray) i = fvalK cs (fld P T i) := by intro T cs i; simp only [fval, fvalK]; cases fld P T i with | none => rfl | some p => obtain ⟨a, b, c⟩ := p; simp
theorem fvk : ∀ {cs : List Value} {off n : Nat} {b : Bool}, fvalK cs (some (off, b, n)) = if off + n ≤ cs.length then partV cs off b n else none := by intros; rfl
theorem ifleV : ∀ {a b : Nat} {x y : Option Value}, a ≤ b → (if a ≤ b then x else y) = x := by intro a b x y h; exact if_pos h
theorem pv1 : ∀ {cs : List Value} {off n : Nat}, partV cs off false n = cs[off]? := by intros; rfl
theorem pvn : ∀ {cs : List Value} {off n : Nat}, partV cs off true n = some (.agg ((cs.drop off).take n).toArray) := by intros; rfl
theorem adn : ∀ {b o n : Nat}, Addr.add ⟨b, o, none⟩ n = ⟨b, o + n, none⟩ := by intro b o n; exact add_none b o n
theorem ixs : ∀ {T : TypeId} {s : ByteArray} {k : IntKind} {i : Int}, 0 ≤ i ∧ i < s.size → idx P T (.string s) (.int k i) = if isStr (P.underlying T) = true then some (.int .u8 (byteAt s i.toNat)) else none := by intro T s k i h; simp [idx, h]
theorem ixa : ∀ {T : TypeId} {cs : List Value} {k : IntKind} {i : Int}, idx P T (.agg cs.toArray) (.int k i) = idxK cs i (elt P T) := by intro T cs k i; simp only [idx, idxK]; all_goals (cases elt P T with | none => rfl | some p => (obtain ⟨a, b, c⟩ := p; cases a <;> rfl))
theorem ixk : ∀ {cs : List Value} {i : Int} {l n : Nat} {b : Bool}, 0 ≤ i ∧ i < l → idxK cs i (some (some l, b, n)) = partV cs (i.toNat * n) b n := by intro _ _ _ _ _ h; simp [idxK, h]
theorem ias : ∀ {T : TypeId} {a : Addr} {n c : Nat} {k : IntKind} {i : Int}, idxA P T (.slice (some a) n c) (.int k i) = idxAK true a n i (elt P T) := by intro T a n c k i; simp only [idxA, idxAK]; cases elt P T with | none => rfl | some p => obtain ⟨x, y, z⟩ := p; cases x <;> simp
theorem iap : ∀ {T : TypeId} {a : Addr} {k : IntKind} {i : Int}, idxA P T (.pointer (some a)) (.int k i) = idxAK false a 0 i (elt P T) := by intro T a k i; simp only [idxA, idxAK]; cases elt P T with | none => rfl | some p => obtain ⟨x, y, z⟩ := p; cases x <;> simp
theorem iak : ∀ {a : Addr} {l : Nat} {i : Int} {n : Nat} {b : Bool}, 0 ≤ i ∧ i < l → idxAK true a l i (some (none, b, n)) = some (.pointer (some (a.add (i.toNat * n)))) := by intro _ _ _ _ _ h; simp [idxAK, h]
theorem iaq : ∀ {a : Addr} {l m : Nat} {i : Int} {n : Nat} {b : Bool}, 0 ≤ i ∧ i < l → idxAK false a m i (some (some l, b, n)) = some (.pointer (some (a.add (i.toNat * n)))) := by intro _ _ _ _ _ _ h; simp [idxAK, h]
theorem io0 : intOf? none = some none := rfl
theorem io1 : ∀ {k : IntKind} {i : Int}, intOf? (some (.int k i)) = some (some i) := by intros; rfl
theorem ss00 : ∀ {T : TypeId} {s : ByteArray}, slc P T (.string s) none none = slcS (P.underlying T) s 0 s.size := by intros; rfl
theorem ss10 : ∀ {T : TypeId} {s : ByteArray} {k : IntKind} {i : Int}, slc P T (.string s) (some (.int k i)) none = slcS (P.underlying T) s i s.size := by intros; rfl
theorem ss01 : ∀ {T : TypeId} {s : ByteArray} {k : IntKind} {j : Int}, slc P T (.string s) none (some (.int k j)) = slcS (P.underlying T) s 0 j := by intros; rfl
theorem ss11 : ∀ {T : TypeId} {s : ByteArray} {k l : IntKind} {i j : Int}, slc P T (.string s) (some (.int k i)) (some (.int l j)) = slcS (P.underlying T) s i j := by intros; rfl
theorem ssk : ∀ {s : ByteArray} {i j : Int}, 0 ≤ i ∧ i ≤ j ∧ j ≤ s.size → slcS (some .string) s i j = some (.string (s.extract i.toNat j.toNat)) := by intro s i j h; simp only [slcS, isStr]; rw [if_pos ⟨trivial, h⟩]
theorem sl00 : ∀ {T : TypeId} {a : Option Addr} {n c : Nat}, slc P T (.slice a n c) none none = slcL (elt P T) a c 0 n := by intros; rfl
theorem sl10 : ∀ {T : TypeId} {a : Option Addr} {n c : Nat} {k : IntKind} {i : Int}, slc P T (.slice a n c) (some (.int k i)) none = slcL (elt P T) a c i n := by intros; rfl
theorem sl01 : ∀ {T : TypeId} {a : Option Addr} {n c : Nat} {k : IntKind} {j : Int}, slc P T (.slice a n c) none (some (.int k j)) = slcL (elt P T) a c 0 j := by intros; rfl
theorem sl11 : ∀ {T : TypeId} {a : Option Addr} {n c : Nat} {k l : IntKind} {i j : Int}, slc P T (.slice a n c) (some (.int k i)) (some (.int l j)) = slcL (elt P T) a c i j := by intros; rfl
theorem slk : ∀ {a : Option Addr} {c m : Nat} {b : Bool} {i j : Int}, 0 ≤ i ∧ i ≤ j ∧ j ≤ c → slcL (some (none, b, m)) a c i j = some (.slice (if c = i.toNat then a else a.map (·.add (i.toNat * m))) (j.toNat - i.toNat) (c - i.toNat)) := by intro a c m b i j h; simp only [slcL]; rw [if_pos h]
theorem mn : ∀ {k j : IntKind} {a b : Int}, minmax false [.int k a, .int j b] = some (.int k (if b < a then b else a)) := by intros; rfl
theorem mx : ∀ {k j : IntKind} {a b : Int}, minmax true [.int k a, .int j b] = some (.int k (if a < b then b else a)) := by intros; rfl
theorem fnk : ∀ {f : FuncId} {a b as : Array Value} {H : Mem} {K : Value → Mem → Prop} {F : Prop} {x : Bx K} {y : Bx F}, funK P (.func (.func f) a b) as H K F x y = InvW P f (a ++ as ++ b) H K := by intros; rfl
theorem fyk : ∀ {l : Nat} {a b as : Array Value} {H : Mem} {K : Value → Mem → Prop} {F : Prop} {x : Bx K} {y : Bx F}, funK P (.func (.yield l) a b) as H K F x y = YieldW P l (a ++ as) H K := by intros; rfl
theorem ldk : ∀ {b : Bool} {n : Nat} {a : Addr} {K : Value → Prop} {x : Bx K}, loadW H (some (b, n)) (.pointer (some a)) K x = readK (H.read a n) b K := by intros; rfl
theorem stk : ∀ {b : Bool} {n : Nat} {a : Addr} {v : Value} {K : Mem → Prop} {x : Bx K}, storeW H (some (b, n)) (.pointer (some a)) v K x = storeC H a v.cells.size n (v.cells.toList.all one) v.cells.toList K := by intro b n a v K x; simp only [storeW, storeC]
theorem stc : ∀ {n : Nat} {a : Addr} {vs : List Value} {K : Mem → Prop} {x : Bx K}, storeC H a n n true vs K x = memK (H.write a vs) K := by intros; simp [storeC]
theorem alk : ∀ {z : List Value} {K : Nat → List Value → Prop} {x : Bx K}, allocW H (some z) K x = NewW H fun n => K n z := by intros; rfl
theorem rds : ∀ {H : Mem} {n : Nat} {B : Blk} {o k : Nat}, (H.upd n B).read ⟨n, o, none⟩ k = B.read o k := by intro H n B o k; simp [Mem.read, Mem.upd]
theorem rdn : ∀ {H : Mem} {n m : Nat} {B : Blk} {o k : Nat}, m ≠ n → (H.upd n B).read ⟨m, o, none⟩ k = H.read ⟨m, o, none⟩ k := by intro H n m B o k h; simp [Mem.read, Mem.upd, h]
theorem rdb : ∀ {rw : Bool} {r : Nat} {cs : List Value} {o k : Nat}, Blk.read ⟨rw, r, cs⟩ o k = if o + k ≤ cs.length then some ((cs.drop o).take k) else none := by intros; rfl
theorem ifle : ∀ {a b : Nat} {x y : Option (List Value)}, a ≤ b → (if a ≤ b then x else y) = x := by intro a b x y h; exact if_pos h
theorem ifleB : ∀ {a b : Nat} {x y : Option Blk}, a ≤ b → (if a ≤ b then x else y) = x := by intro a b x y h; exact if_pos h
theorem upd_none : ∀ {H : Mem} {n m : Nat} {B : Blk}, m ≠ n → (H.upd n B) m = H m := by intro H n m B h; simp [Mem.upd, h]
theorem wrs : ∀ {H : Mem} {n : Nat} {B : Blk} {o : Nat} {vs : List Value}, (H.upd n B).write ⟨n, o, none⟩ vs = (B.write o vs).map (H.upd n ·) := by intro H n B o vs; simp only [Mem.write, upd_get, Option.bind_some]; congr 1; funext B2; exact upd_same n B B2
theorem wrn : ∀ {H : Mem} {n m : Nat} {B : Blk} {o : Nat} {vs : List Value}, m ≠ n → (H.upd n B).write ⟨m, o, none⟩ vs = (H.write ⟨m, o, none⟩ vs).map (·.upd n B) := by intro H n m B o vs h; simp only [Mem.write]; rw [show (H.upd n B) m = H m from by simp [Mem.upd, h]]; cases H m with | none => rfl | some C => (simp only [Option.bind_some, Option.map_map]; congr 1; funext C2; exact upd_comm h)
theorem wrb : ∀ {r : Nat} {cs : List Value} {o : Nat} {vs : List Value}, Blk.write ⟨true, r, cs⟩ o vs = if o + vs.length ≤ cs.length then (if o + vs.length ≤ r then some ⟨true, r, splice cs o vs⟩ else none) else none := by intro r cs o vs; simp only [Blk.write, true_and]; by_cases h1 : o + vs.length ≤ cs.length <;> by_cases h2 : o + vs.length ≤ r <;> simp [h1, h2]
theorem cei : ∀ {k : IntKind} {n : Int}, (Value.int k n).cells = #[.int k n] := by intros; rfl
theorem ces : ∀ {s : ByteArray}, (Value.string s).cells = #[.string s] := by intros; rfl
theorem ceb : ∀ {b : Bool}, (Value.bool b).cells = #[.bool b] := by intros; rfl
theorem cep : ∀ {a : Option Addr}, (Value.pointer a).cells = #[.pointer a] := by intros; rfl
theorem cel : ∀ {a : Option Addr} {n c : Nat}, (Value.slice a n c).cells = #[.slice a n c] := by intros; rfl
theorem cef : ∀ {f : Fn} {a b : Array Value}, (Value.func f a b).cells = #[.func f a b] := by intros; rfl
theorem cea : ∀ {cs : Array Value}, (Value.agg cs).cells = cs := by intros; rfl
theorem cen : (Value.nilFunc).cells = #[.nilFunc] := rfl
theorem one_i : ∀ {k : IntKind} {n : Int}, one (.int k n) = true := by intros; rfl
theorem one_s : ∀ {s : ByteArray}, one (.string s) = true := by intros; rfl
theorem one_b : ∀ {b : Bool}, one (.bool b) = true := by intros; rfl
theorem one_p : ∀ {a : Option Addr}, one (.pointer a) = true := by intros; rfl
theorem one_l : ∀ {a : Option Addr} {n c : Nat}, one (.slice a n c) = true := by intros; rfl
theorem one_f : ∀ {f : Fn} {a b : Array Value}, one (.func f a b) = true := by intros; rfl
theorem one_n : one .nilFunc = true := rfl
theorem und : undef = .tuple #[] := rfl
theorem nwu : ∀ {H : Mem} {n m : Nat} {B : Blk}, ((H.upd n B) m = none) = (m ≠ n ∧ H m = none) := by intro H n m B; simp only [Mem.upd, eq_iff_iff]; by_cases h : m = n <;> simp [h]
theorem bls : ∀ {T : TypeId} {ps : List (Nat × Value)}, bld P T ps = bldK (flds P T) (elt P T) (tzero P T) ps := by intro T ps; rfl
theorem blk : ∀ {l : List (Nat × Nat)} {e : Option (Option Nat × Bool × Nat)} {z : List Value} {ps : List (Nat × Value)}, bldK (some l) e (some z) ps = (fillL (fun i => l[i]?) z ps).map fun cs => .agg cs.toArray := by intros; rfl
theorem bla : ∀ {l n : Nat} {b : Bool} {z : List Value} {ps : List (Nat × Value)}, bldK none (some (some l, b, n)) (some z) ps = (fillL (fun i => some (i * n, n)) z ps).map fun cs => .agg cs.toArray := by intros; rfl
theorem fl0 : ∀ {pl : Nat → Option (Nat × Nat)} {cs : List Value}, fillL pl cs [] = some cs := by intros; rfl
theorem fl1 : ∀ {pl : Nat → Option (Nat × Nat)} {cs : List Value} {i : Nat} {v : Value} {r : List (Nat × Value)}, fillL pl cs ((i, v) :: r) = fillK pl cs v r (pl i) := by intro pl cs i v r; unfold fillL fillK; cases pl i with | none => rfl | some p => rfl
theorem flk : ∀ {pl : Nat → Option (Nat × Nat)} {cs : List Value} {v : Value} {r : List (Nat × Value)} {off n : Nat}, fillK pl cs v r (some (off, n)) = fillC pl cs v.cells.toList v.cells.size n off r := by intros; rfl
theorem flc : ∀ {pl : Nat → Option (Nat × Nat)} {cs vs : List Value} {r : List (Nat × Value)} {off n : Nat}, fillC pl cs vs n n off r = if off + n ≤ cs.length then fillL pl (splice cs off vs) r else none := by intro pl cs vs r off n; simp [fillC]
theorem w64 : ∀ {n : Int}, -9223372036854775808 ≤ n ∧ n ≤ 9223372036854775807 → IntKind.i64.wrap n = n := by intro n h; rw [IntKind.wrap_i64]; omega
theorem wu8 : ∀ {n : Int}, 0 ≤ n ∧ n ≤ 255 → IntKind.u8.wrap n = n := by intro n h; rw [IntKind.wrap_u8]; omega
theorem spl : ∀ {cs : List Value} {o : Nat} {vs : List Value}, splice cs o vs = cs.take o ++ vs ++ cs.drop (o + vs.length) := by intros; rfl
theorem V0 : (type_of% (@CondW_true)) ∧ (type_of% (@CondW_false)) ∧ (type_of% (@GuardW_t)) ∧ (type_of% (@GuardW_f)) ∧ (type_of% (@GuardW_u)) ∧ (type_of% (@optK_s)) ∧ (type_of% (@elseK_s)) ∧ (type_of% (@elseK_n)) ∧ (type_of% (@boolK_b)) ∧ (type_of% (@readK_1)) ∧ (type_of% (@readK_n)) ∧ (type_of% (@memK_s)) ∧ (type_of% (@retK_s)) ∧ (type_of% (@set_get)) ∧ (type_of% (@put_some)) ∧ (type_of% (@put_none)) ∧ (type_of% (@thenQ_n)) ∧ (type_of% (@thenQ_x)) ∧ (type_of% (@thenQ_r)) ∧ (type_of% (@blockQ_n)) ∧ (type_of% (@blockQ_r)) ∧ (type_of% (@blockQ_x)) ∧ (type_of% (@endQ_n)) ∧ (type_of% (@endQ_r)) ∧ (type_of% (@ret0)) := ⟨@CondW_true, @CondW_false, @GuardW_t, @GuardW_f, @GuardW_u, @optK_s, @elseK_s, @elseK_n, @boolK_b, @readK_1, @readK_n, @memK_s, @retK_s, @set_get, @put_some, @put_none, @thenQ_n, @thenQ_x, @thenQ_r, @blockQ_n, @blockQ_r, @blockQ_x, @endQ_n, @endQ_r, @ret0⟩
theorem V1 : (type_of% (@retT)) ∧ (type_of% (@retC)) ∧ (type_of% (@celA)) ∧ (type_of% (@celB)) ∧ (type_of% (@celA1)) ∧ (type_of% (@celB1)) ∧ (type_of% (@tup1)) ∧ (type_of% (@tup0)) ∧ (type_of% (@tup2)) ∧ (type_of% (@initE_get)) ∧ (type_of% (@set_ds)) ∧ (type_of% (@init_ds)) ∧ (type_of% (@leave0)) ∧ (type_of% (@leaveM)) ∧ (type_of% (@uoc)) ∧ (type_of% (@uor)) ∧ (type_of% (@uow)) ∧ (type_of% (@uoo)) ∧ (type_of% (@uou)) ∧ (type_of% (@uoe)) ∧ (type_of% (@ev_t)) ∧ (type_of% (@ev_c)) ∧ (type_of% (@ev_f)) ∧ (type_of% (@gval_eq)) ∧ (type_of% (@ops0)) := ⟨@retT, @retC, @celA, @celB, @celA1, @celB1, @tup1, @tup0, @tup2, @initE_get, @set_ds, @init_ds, @leave0, @leaveM, @uoc, @uor, @uow, @uoo, @uou, @uoe, @ev_t, @ev_c, @ev_f, @gval_eq, @ops0⟩
theorem V2 : (type_of% (@opsN)) ∧ (type_of% (@opsG)) ∧ (type_of% (@op_move)) ∧ (type_of% (@op_assign)) ∧ (type_of% (@op_pick)) ∧ (type_of% (@op_bin)) ∧ (type_of% (@op_un)) ∧ (type_of% (@op_conv)) ∧ (type_of% (@op_index)) ∧ (type_of% (@op_indexA)) ∧ (type_of% (@op_slice)) ∧ (type_of% (@op_fadr)) ∧ (type_of% (@op_field)) ∧ (type_of% (@op_extr)) ∧ (type_of% (@op_nilc)) ∧ (type_of% (@op_mkf)) ∧ (type_of% (@op_build)) ∧ (type_of% (@op_load)) ∧ (type_of% (@op_store)) ∧ (type_of% (@op_box)) ∧ (type_of% (@op_alloc)) ∧ (type_of% (@op_call)) ∧ (type_of% (@op_len)) ∧ (type_of% (@op_min)) ∧ (type_of% (@op_max)) := ⟨@opsN, @opsG, @op_move, @op_assign, @op_pick, @op_bin, @op_un, @op_conv, @op_index, @op_indexA, @op_slice, @op_fadr, @op_field, @op_extr, @op_nilc, @op_mkf, @op_build, @op_load, @op_store, @op_box, @op_alloc, @op_call, @op_len, @op_min, @op_max⟩
theorem V3 : (type_of% (@op_append)) ∧ (type_of% (@op_copy)) ∧ (type_of% (@op_cap)) ∧ (type_of% (@op_mks)) ∧ (type_of% (@op_bsl)) ∧ (type_of% (@op_slice3)) ∧ (type_of% (@pw_skip)) ∧ (type_of% (@pw_region)) ∧ (type_of% (@pw_draw)) ∧ (type_of% (@pw_seq)) ∧ (type_of% (@pw_cond)) ∧ (type_of% (@pw_block)) ∧ (type_of% (@pw_exit)) ∧ (type_of% (@pw_ret)) ∧ (type_of% (@pw_loop)) ∧ (type_of% (@pw_rangef)) ∧ (type_of% (@badd)) ∧ (type_of% (@bsub)) ∧ (type_of% (@bmul)) ∧ (type_of% (@beql)) ∧ (type_of% (@bneq)) ∧ (type_of% (@blss)) ∧ (type_of% (@bleq)) ∧ (type_of% (@bgtr)) ∧ (type_of% (@bgeq)) := ⟨@op_append, @op_copy, @op_cap, @op_mks, @op_bsl, @op_slice3, @pw_skip, @pw_region, @pw_draw, @pw_seq, @pw_cond, @pw_block, @pw_exit, @pw_ret, @pw_loop, @pw_rangef, @badd, @bsub, @bmul, @beql, @bneq, @blss, @bleq, @bgtr, @bgeq⟩
theorem V4 : (type_of% (@band)) ∧ (type_of% (@bor)) ∧ (type_of% (@bxor)) ∧ (type_of% (@bandNot)) ∧ (type_of% (@bquo)) ∧ (type_of% (@brem)) ∧ (type_of% (@bshl_i64)) ∧ (type_of% (@bshr_i64)) ∧ (type_of% (@bshl_u8)) ∧ (type_of% (@bshr_u8)) ∧ (type_of% (@bshl_u32)) ∧ (type_of% (@bshr_u32)) ∧ (type_of% (@bshl_i32)) ∧ (type_of% (@bshr_i32)) ∧ (type_of% (@bshl_u64)) ∧ (type_of% (@bshr_u64)) ∧ (type_of% (@seql)) ∧ (type_of% (@sneq)) ∧ (type_of% (@slss)) ∧ (type_of% (@sleq)) ∧ (type_of% (@sgtr)) ∧ (type_of% (@sgeq)) ∧ (type_of% (@sadd)) ∧ (type_of% (@beq)) ∧ (type_of% (@bne)) := ⟨@band, @bor, @bxor, @bandNot, @bquo, @brem, @bshl_i64, @bshr_i64, @bshl_u8, @bshr_u8, @bshl_u32, @bshr_u32, @bshl_i32, @bshr_i32, @bshl_u64, @bshr_u64, @seql, @sneq, @slss, @sleq, @sgtr, @sgeq, @sadd, @beq, @bne⟩
theorem V5 : (type_of% (@isB)) ∧ (type_of% (@peq)) ∧ (type_of% (@pne)) ∧ (type_of% (@isP)) ∧ (type_of% (@aggB)) ∧ (type_of% (@unot)) ∧ (type_of% (@uneg)) ∧ (type_of% (@cint)) ∧ (type_of% (@cstr)) ∧ (type_of% (@csl)) ∧ (type_of% (@cbs)) ∧ (type_of% (@lstr)) ∧ (type_of% (@isS)) ∧ (type_of% (@lsl)) ∧ (type_of% (@isL)) ∧ (type_of% (@xt)) ∧ (type_of% (@nc)) ∧ (type_of% (@ncf)) ∧ (type_of% (@fdr)) ∧ (type_of% (@fdk)) ∧ (type_of% (@fvl)) ∧ (type_of% (@fvk)) ∧ (type_of% (@ifleV)) ∧ (type_of% (@pv1)) ∧ (type_of% (@pvn)) := ⟨@isB, @peq, @pne, @isP, @aggB, @unot, @uneg, @cint, @cstr, @csl, @cbs, @lstr, @isS, @lsl, @isL, @xt, @nc, @ncf, @fdr, @fdk, @fvl, @fvk, @ifleV, @pv1, @pvn⟩
theorem V6 : (type_of% (@adn)) ∧ (type_of% (@ixs)) ∧ (type_of% (@ixa)) ∧ (type_of% (@ixk)) ∧ (type_of% (@ias)) ∧ (type_of% (@iap)) ∧ (type_of% (@iak)) ∧ (type_of% (@iaq)) ∧ (type_of% (@io0)) ∧ (type_of% (@io1)) ∧ (type_of% (@ss00)) ∧ (type_of% (@ss10)) ∧ (type_of% (@ss01)) ∧ (type_of% (@ss11)) ∧ (type_of% (@ssk)) ∧ (type_of% (@sl00)) ∧ (type_of% (@sl10)) ∧ (type_of% (@sl01)) ∧ (type_of% (@sl11)) ∧ (type_of% (@slk)) ∧ (type_of% (@mn)) ∧ (type_of% (@mx)) ∧ (type_of% (@fnk)) ∧ (type_of% (@fyk)) ∧ (type_of% (@ldk)) := ⟨@adn, @ixs, @ixa, @ixk, @ias, @iap, @iak, @iaq, @io0, @io1, @ss00, @ss10, @ss01, @ss11, @ssk, @sl00, @sl10, @sl01, @sl11, @slk, @mn, @mx, @fnk, @fyk, @ldk⟩
theorem V7 : (type_of% (@stk)) ∧ (type_of% (@stc)) ∧ (type_of% (@alk)) ∧ (type_of% (@rds)) ∧ (type_of% (@rdn)) ∧ (type_of% (@rdb)) ∧ (type_of% (@ifle)) ∧ (type_of% (@ifleB)) ∧ (type_of% (@upd_none)) ∧ (type_of% (@wrs)) ∧ (type_of% (@wrn)) ∧ (type_of% (@wrb)) ∧ (type_of% (@cei)) ∧ (type_of% (@ces)) ∧ (type_of% (@ceb)) ∧ (type_of% (@cep)) ∧ (type_of% (@cel)) ∧ (type_of% (@cef)) ∧ (type_of% (@cea)) ∧ (type_of% (@cen)) ∧ (type_of% (@one_i)) ∧ (type_of% (@one_s)) ∧ (type_of% (@one_b)) ∧ (type_of% (@one_p)) ∧ (type_of% (@one_l)) := ⟨@stk, @stc, @alk, @rds, @rdn, @rdb, @ifle, @ifleB, @upd_none, @wrs, @wrn, @wrb, @cei, @ces, @ceb, @cep, @cel, @cef, @cea, @cen, @one_i, @one_s, @one_b, @one_p, @one_l⟩
theorem V8 : (type_of% (@one_f)) ∧ (type_of% (@one_n)) ∧ (type_of% (@und)) ∧ (type_of% (@nwu)) ∧ (type_of% (@bls)) ∧ (type_of% (@blk)) ∧ (type_of% (@bla)) ∧ (type_of% (@fl0)) ∧ (type_of% (@fl1)) ∧ (type_of% (@flk)) ∧ (type_of% (@flc)) ∧ (type_of% (@w64)) ∧ (type_of% (@wu8)) ∧ (type_of% (@spl)) := ⟨@one_f, @one_n, @und, @nwu, @bls, @blk, @bla, @fl0, @fl1, @flk, @flc, @w64, @wu8, @spl⟩
theorem if_true_ {α : Sort _} (a b : α) : (if True then a else b) = a := if_pos trivial
theorem if_false_ {α : Sort _} (a b : α) : (if False then a else b) = b := if_neg id
theorem V9 : (type_of% @Option.getD_some.{0}) ∧ (type_of% @Option.getD_none.{0}) ∧ (type_of% @Option.map_some.{0, 0}) ∧ (type_of% @Option.map_none.{0, 0}) ∧ (type_of% @Option.bind_some.{0, 0}) ∧ (type_of% @Option.bind_none.{0, 0}) ∧ (type_of% @List.getElem?_cons_zero.{0}) ∧ (type_of% @List.getElem?_cons_succ.{0}) ∧ (type_of% @List.getElem?_nil.{0}) ∧ (type_of% @List.take_succ_cons.{0}) ∧ (type_of% @List.take_zero.{0}) ∧ (type_of% @List.drop_succ_cons.{0}) ∧ (type_of% @List.drop_zero.{0}) ∧ (type_of% @List.length_cons.{0}) ∧ (type_of% @List.length_nil.{0}) ∧ (type_of% @List.nil_append.{0}) ∧ (type_of% @List.cons_append.{0}) ∧ (type_of% @List.append_nil.{0}) ∧ (type_of% @List.map_cons.{0, 0}) ∧ (type_of% @List.map_nil.{0, 0}) ∧ (type_of% @List.all_cons.{0}) ∧ (type_of% @List.all_nil.{0}) ∧ (type_of% @Nat.zero_add) ∧ (type_of% @Nat.add_zero) := ⟨@Option.getD_some, @Option.getD_none, @Option.map_some, @Option.map_none, @Option.bind_some, @Option.bind_none, @List.getElem?_cons_zero, @List.getElem?_cons_succ, @List.getElem?_nil, @List.take_succ_cons, @List.take_zero, @List.drop_succ_cons, @List.drop_zero, @List.length_cons, @List.length_nil, @List.nil_append, @List.cons_append, @List.append_nil, @List.map_cons, @List.map_nil, @List.all_cons, @List.all_nil, @Nat.zero_add, @Nat.add_zero⟩
end
end Go.Proofs.YtgkolnknobgcmaaGreatV
end
section
namespace Go.Proofs.YtgkolnknobgcmaaGreatV
open Go

/-- A slice type's elements: cells, bytes, the zero's cells. -/
def eInfo (P : Program) (T : TypeId) : Option (Nat × Nat × List Value) :=
  match P.underlying T with
  | some (.slice e) => (P.info? e).bind fun i => i.zero.map fun z => (i.size, i.bytes, z.cells.toList)
  | _ => none

/-- v is a slice of l elements (n cells each) with these cells, in a block of its own beside H0; or nil. -/
def OwnV (n : Nat) (H0 : Mem) (v : Value) (l : Nat) (cs : List Value) (H : Mem) : Prop :=
  cs.length = l * n ∧ ((v = .slice none 0 0 ∧ l = 0 ∧ H = H0) ∨
    ∃ b cap r, H0 b = none ∧ v = .slice (some ⟨b, 0, none⟩) l cap ∧ l ≤ cap ∧ cap * n ≤ r ∧ H = H0.upd b ⟨true, r, cs⟩)
/-- x is k elements with these cells. -/
def SrcV (n : Nat) (H : Mem) (x : Value) (k : Nat) (news : List Value) : Prop :=
  (k = 0 ∧ news = [] ∧ ∃ a c, x = .slice a 0 c) ∨ ∃ ad c, x = .slice (some ad) k c ∧ H.read ad (k * n) = some news

theorem OwnV.nil {n : Nat} {H : Mem} : OwnV n H (.slice none 0 0) 0 [] H := ⟨by simp, .inl ⟨rfl, rfl, rfl⟩⟩
theorem OwnV.le {n : Nat} {H0 H : Mem} {v : Value} {l : Nat} {cs : List Value} (h : OwnV n H0 v l cs H) : H0.le H := by
  rcases h.2 with ⟨_, _, rfl⟩ | ⟨b, cap, r, hb, _, _, _, rfl⟩
  · exact H.le_refl
  · exact Mem.le_upd hb _
theorem OwnV.new {n : Nat} {H : Mem} {b l : Nat} {cs : List Value} (hb : H b = none) (hl : cs.length = l * n) : OwnV n H (.slice (some ⟨b, 0, none⟩) l l) l cs (H.upd b ⟨true, cs.length, cs⟩) :=
  ⟨hl, .inr ⟨b, l, _, hb, rfl, Nat.le_refl _, by rw [hl]; exact Nat.le_refl _, rfl⟩⟩

theorem read_le {H H' : Mem} (h : H.le H') {a : Addr} {k : Nat} {vs : List Value} (hr : H.read a k = some vs) : H'.read a k = some vs := by
  obtain ⟨b, o, B, rfl, hb, hle, rfl⟩ := read_parts hr
  obtain ⟨B', hb', h1, h2, h3⟩ := h.1 b B hb
  obtain ⟨r, hr'⟩ := h1
  simp only [Mem.read, hb', Option.bind_some, Blk.read]
  rw [← hr', if_pos (by simp; omega)]
  rw [List.drop_append_of_le_length (by omega), List.take_append_of_le_length (by simp; omega)]
theorem SrcV.le {n : Nat} {H H' : Mem} {x : Value} {k : Nat} {news : List Value} (h : SrcV n H x k news) (hl : H.le H') : SrcV n H' x k news := by
  rcases h with h | ⟨ad, c, h1, h2⟩
  · exact .inl h
  · exact .inr ⟨ad, c, h1, read_le hl h2⟩
theorem OwnV.src {n : Nat} {H0 H : Mem} {v : Value} {l : Nat} {cs : List Value} (h : OwnV n H0 v l cs H) : SrcV n H v l cs := by
  rcases h with ⟨hl, ⟨rfl, rfl, rfl⟩ | ⟨b, cap, r, hb, rfl, _, _, rfl⟩⟩
  · exact .inl ⟨rfl, List.eq_nil_of_length_eq_zero (by simpa using hl), none, 0, rfl⟩
  · refine .inr ⟨_, cap, rfl, ?_⟩
    simp only [Mem.read, upd_get, Option.bind_some, Blk.read]
    rw [if_pos (by show 0 + l * n ≤ cs.length; omega), List.drop_zero, ← hl, List.take_length]
theorem OwnV.upd {n : Nat} {H0 H : Mem} {v : Value} {l : Nat} {cs : List Value} (h : OwnV n H0 v l cs H) {m : Nat} (hm : H m = none) (B : Blk) : OwnV n (H0.upd m B) v l cs (H.upd m B) := by
  refine ⟨h.1, ?_⟩
  rcases h.2 with ⟨h1, h2, rfl⟩ | ⟨b, cap, r, hb, h1, h2, h3, rfl⟩
  · exact .inl ⟨h1, h2, rfl⟩
  · have hne : m ≠ b := by rintro rfl; simp [Mem.upd] at hm
    refine .inr ⟨b, cap, r, ?_, h1, h2, h3, upd_comm hne⟩
    simp [Mem.upd, Ne.symm hne, hb]

section
variable {P : Program} {H : Mem}

theorem one_eq (v : Value) : v.oneCell' = one v := by cases v <;> rfl
theorem src_cells {n : Nat} {w : World} (hw : Fits w H) {ad : Addr} {k : Nat} {news : List Value} (h : H.read ad (k * n) = some news) : news.length = k * n ∧ ∀ j u, news[j]? = some u → w.cell? (ad.add j) = some u := by
  refine ⟨read_length h, fun j u hj => ?_⟩
  obtain ⟨b, o, B, rfl, hb, hle, rfl⟩ := read_parts h
  rw [add_none]
  refine hw.cell hb ?_
  rw [List.getElem?_take] at hj
  split at hj
  · rw [List.getElem?_drop] at hj; exact hj
  · cases hj

theorem drew_fits {w : World} (h : Fits w H) : Fits w.drew H := h.like rfl rfl rfl rfl

/-- Cells that are not known yet are written behind those that are. -/
theorem run_store_behind {w : World} (hw : Fits w H) {b : Nat} {r : Nat} {cs news : List Value} (hb : H b = some ⟨true, r, cs⟩) (hr : cs.length + news.length ≤ r) (h1 : news.all one = true) :
    ∃ w', (storeCells ⟨b, cs.length, none⟩ news).run P w = .ok () w' ∧ Fits w' (H.upd b ⟨true, r, cs ++ news⟩) := by
  obtain ⟨_, hg, c, T, lo, hi, rfl, hp, hs, hf⟩ := hw.1 b _ hb
  have hw' : Fits w (H.upd b ⟨true, r, c.toList.take r⟩) := by
    refine ⟨?_, hw.2, fun u hu => ⟨(hw.3 u hu).1, fun b' B' hB' hr' => ?_, (hw.3 u hu).2.2⟩, hw.4⟩
    rotate_left
    · by_cases e : b' = b
      · subst e; exact (hw.3 u hu).2.1 b' _ hb rfl
      · simp only [Mem.upd, e, if_false] at hB'; exact (hw.3 u hu).2.1 b' B' hB' hr'
    intro b' B' hB'
    by_cases e : b' = b
    · subst e
      rw [upd_get] at hB'
      simp only [Option.some.injEq] at hB'
      subst hB'
      exact ⟨_, hg, c, T, lo, hi, rfl, List.take_prefix _ _, hs, hf⟩
    · simp only [Mem.upd, e, if_false] at hB'
      exact hw.1 b' B' hB'
  simp only at hs
  obtain ⟨w', hrun, hfit⟩ := run_storeCells (P := P) news 0 w _ (b := b) (o := cs.length) hw' (upd_get _ _) rfl (by simp; omega) (by simp; omega) h1
  refine ⟨w', hrun, hfit.mono ?_⟩
  rw [upd_same]
  refine ⟨?_, fun _ _ h => h, fun _ h => h, fun _ _ h => h⟩
  intro b' B' hB'
  by_cases e : b' = b
  · subst e
    rw [upd_get] at hB'
    simp only [Option.some.injEq] at hB'
    subst hB'
    refine ⟨_, upd_get _ _, ?_, Nat.le_refl _, id⟩
    have hcs : cs = (c.toList.take r).take cs.length := by
      obtain ⟨q, hq⟩ := hp
      simp only at hq
      rw [List.take_take, Nat.min_eq_left (by omega), ← hq]; simp
    show cs ++ news <+: splice (c.toList.take r) (cs.length + 0) news
    unfold splice
    rw [Nat.add_zero, ← hcs]
    exact List.prefix_append _ _
  · simp only [Mem.upd, e, if_false] at hB'
    exact ⟨B', by simp [Mem.upd, e, hB'], B'.le_refl⟩

theorem eInfo_parts {T : TypeId} {n b : Nat} {z : List Value} (h : eInfo P T = some (n, b, z)) : ∃ e i zv, P.underlying T = some (.slice e) ∧ P.info? e = some i ∧ i.zero = some zv ∧ i.size = n ∧ i.bytes = b ∧ zv.cells.toList = z := by
  unfold eInfo at h
  split at h
  · rename_i e hu
    cases hi : P.info? e with
    | none => simp [hi] at h
    | some i =>
      simp only [hi, Option.bind_some, Option.map_eq_some_iff] at h
      obtain ⟨zv, hz, h⟩ := h
      simp only [Prod.mk.injEq] at h
      exact ⟨e, i, zv, hu, hi, hz, h.1, h.2.1, h.2.2⟩
  · cases h

theorem fits_grown {w : World} (hw : Fits w H) (c : Array Value) (T : TypeId) {cs : List Value} (hp : cs <+: c.toList) {r : Nat} (hr : r ≤ c.size) : Fits (w.drew.alloc (.cells c T)) (H.upd w.heap.size ⟨true, r, cs⟩) := by
  refine (Fits.alloc (drew_fits hw) c T).mono ⟨?_, fun _ _ h => h, fun _ h => h, fun _ _ h => h⟩
  intro b B hB
  by_cases e : b = w.heap.size
  · subst e
    rw [upd_get] at hB
    simp only [Option.some.injEq] at hB; subst hB
    exact ⟨⟨true, c.size, c.toList⟩, by show (H.upd w.heap.size _) w.heap.size = _; exact upd_get _ _, hp, hr, fun _ => rfl⟩
  · simp only [Mem.upd, e, if_false] at hB
    exact ⟨B, by show (H.upd w.heap.size _) b = _; simp [Mem.upd, e, hB], B.le_refl⟩

/-- append: to a slice of the code's own, or to nil. -/
theorem append_own {T U : TypeId} {n by_ : Nat} {z : List Value} (hT : eInfo P T = some (n, by_, z)) (hn : 0 < n) (hz : z.length = n) {H0 : Mem} {v x : Value} {l k : Nat} {cs news : List Value}
    (ho : OwnV n H0 v l cs H) (hx : SrcV n H x k news) (h1 : news.all one = true) (h63 : l + k ≤ 9223372036854775807) (hb : (l + k) * by_ ≤ 140737488355328) {K : Value → Mem → Prop}
    (hK : ∀ v' H', OwnV n H0 v' (l + k) (cs ++ news) H' → K v' H') : ValW P (Builtin.append_ #[T, T] U #[v, x]) H K := by
  obtain ⟨e, i, zv, hu, hi, hzv, hsz, hby, hzc⟩ := eInfo_parts hT
  intro w hw
  subst hsz hby
  rcases hx with ⟨rfl, rfl, a, c, rfl⟩ | ⟨ad, c, rfl, hrd⟩
  · -- nothing is added
    refine ⟨v, w, H, ?_, hw, hK v H (by simpa using ho)⟩
    rcases ho.2 with ⟨rfl, rfl, rfl⟩ | ⟨b, cap, r, hb0, rfl, hlc, hcr, rfl⟩
    · cases a <;> simp [Builtin.append_, run_underlying hu, sizeOf, typeInfo, hi, Builtin.lenOf, Builtin.firstCells, loadCells, loadCellsFrom]
    · cases a <;> simp [Builtin.append_, run_underlying hu, sizeOf, typeInfo, hi, Builtin.lenOf, Builtin.firstCells, loadCells, loadCellsFrom, hlc, storeCells]
  · obtain ⟨hlen, hcell⟩ := src_cells hw hrd
    rcases ho with ⟨hcl, ⟨rfl, rfl, rfl⟩ | ⟨b, cap, r, hb0, rfl, hlc, hcr, rfl⟩⟩
    · have hcs : cs = [] := List.eq_nil_of_length_eq_zero (by simpa using hcl)
      subst hcs
      by_cases hk : k = 0
      · subst hk
        have hnw : news = [] := List.eq_nil_of_length_eq_zero (by simpa using hlen)
        subst hnw
        refine ⟨_, w, H, ?_, hw, hK _ _ (by simpa using OwnV.nil)⟩
        simp [Builtin.append_, run_underlying hu, sizeOf, typeInfo, hi, Builtin.lenOf, Builtin.firstCells, loadCells, loadCellsFrom]
      · have hr := run_append_nil (P := P) w T U e i zv hu hi hzv ad k c news hlen hcell (by omega) (by omega) (by simp only [Nat.zero_add] at hb; omega)
        have hge := grownCap_ge w k 0 e
        refine ⟨_, _, _, hr, fits_grown hw _ e (cs := [] ++ news) (r := grownCap w k 0 e * i.size) ?_ ?_, hK _ _ ⟨by simp [hlen], .inr ⟨w.heap.size, grownCap w k 0 e, _, hw.fresh, by simp, by omega, Nat.le_refl _, rfl⟩⟩⟩
        · simp
        · simp only [Array.size_append, List.size_toArray, size_zeroCells, hlen]
          rw [show zv.cells.size = i.size from by rw [← Array.length_toList, hzc, hz], ← Nat.add_mul]
          exact Nat.mul_le_mul_right _ (by omega)
    · by_cases hroom : l + k ≤ cap
      · have hin : cs.length + news.length ≤ r := by rw [hcl, hlen, ← Nat.add_mul]; exact Nat.le_trans (Nat.mul_le_mul_right _ hroom) hcr
        obtain ⟨w', hst, hf⟩ := run_store_behind (P := P) hw (upd_get b _) hin h1
        rw [upd_same] at hf
        refine ⟨.slice (some ⟨b, 0, none⟩) (l + k) cap, w', _, ?_, hf, hK _ _ ⟨by simp [hcl, hlen, Nat.add_mul], .inr ⟨b, cap, r, hb0, rfl, hroom, hcr, rfl⟩⟩⟩
        have hfc := run_firstCells_some (P := P) w i.size k ad k c news hlen hcell
        rw [hcl] at hst
        simp [Builtin.append_, run_underlying hu, sizeOf, typeInfo, hi, Builtin.lenOf, hroom, hfc, add_none, hst]
      · have hread : (H0.upd b ⟨true, r, cs⟩).read ⟨b, 0, none⟩ (l * i.size) = some cs := by
          simp only [Mem.read, upd_get, Option.bind_some, Blk.read]
          rw [if_pos (by show 0 + l * i.size ≤ cs.length; omega), List.drop_zero, ← hcl, List.take_length]
        obtain ⟨hlo, hco⟩ := src_cells hw hread
        have hr := run_append_grow (P := P) w T U e i zv hu hi hzv ⟨b, 0, none⟩ l cap cs hlo hco ad k c news hlen hcell (by omega) (by omega) (growslice_fits (by omega) hb)
        have hge := grownCap_ge w (l + k) cap e
        have hfr := hw.fresh
        have hbn : w.heap.size ≠ b := by intro h; rw [h] at hfr; simp [Mem.upd] at hfr
        have h0 : H0 w.heap.size = none := by simpa [Mem.upd, hbn] using hfr
        refine ⟨_, _, _, hr, Fits.mono (H := H0.upd w.heap.size ⟨true, grownCap w (l + k) cap e * i.size, cs ++ news⟩) (fits_grown hw _ e (cs := cs ++ news) (r := grownCap w (l + k) cap e * i.size) ?_ ?_) ?_,
          hK _ _ ⟨by simp [hcl, hlen, Nat.add_mul], .inr ⟨w.heap.size, _, _, h0, rfl, hge, Nat.le_refl _, rfl⟩⟩⟩
        · simp
        · simp only [Array.size_append, List.size_toArray, size_zeroCells, hlen, hcl]
          rw [show zv.cells.size = i.size from by rw [← Array.length_toList, hzc, hz], ← Nat.add_mul, ← Nat.add_mul]
          exact Nat.mul_le_mul_right _ (by omega)
        · refine ⟨?_, fun _ _ h => h, fun _ h => h, fun _ _ h => h⟩
          intro c' B' hB'
          by_cases e1 : c' = w.heap.size
          · subst e1; exact ⟨B', by rw [upd_get] at hB' ⊢; exact hB', B'.le_refl⟩
          · simp only [Mem.upd, e1, if_false] at hB'
            have : c' ≠ b := by rintro rfl; rw [hb0] at hB'; cases hB'
            exact ⟨B', by simp [Mem.upd, e1, this, hB'], B'.le_refl⟩

theorem semW_append {e : Env} {s x : Operand} {T T' U : TypeId} {d : Option Tmp} {p : String} {ed : Array Edge} {g : Option (Nat × Bool)} {K : Value → Mem → Prop}
    (h : ValW P (Builtin.append_ #[T, T'] U #[ev e s, ev e x]) H K) : SemW P (execOp (ev e) ⟨d, .call ⟨.builtin .append, #[s, x], #[T, T']⟩, U, p, ed, g⟩) H K := by
  intro w hw
  obtain ⟨v, w', H', hr, hf, hk⟩ := h w hw
  exact ⟨.value v, w', H', by simp [execOp, resolve, invoke, builtin, hr], hf, hk⟩
end
end Go.Proofs.YtgkolnknobgcmaaGreatV
end
section
namespace Go.Proofs.YtgkolnknobgcmaaGreatV
open Go Go.Lib

/-- Bytes as cells, and as a text. -/
def byC (l : List UInt8) : List Value := l.map fun b => .int .u8 b.toNat
def bs (l : List UInt8) : ByteArray := ⟨l.toArray⟩
theorem byC_append (l m : List UInt8) : byC (l ++ m) = byC l ++ byC m := List.map_append
theorem byC_length (l : List UInt8) : (byC l).length = l.length := List.length_map ..
theorem byC_one (l : List UInt8) : (byC l).all one = true := by
  unfold byC; rw [List.all_eq_true]; intro x hx; obtain ⟨b, _, rfl⟩ := List.mem_map.1 hx; rfl
theorem bs_size (l : List UInt8) : (bs l).size = l.length := by simp [bs, ByteArray.size]
theorem bs_data (l : List UInt8) : (bs l).data.toList = l := by simp [bs]
theorem bs_of (s : ByteArray) : bs s.data.toList = s := by simp [bs]
theorem bs_inj {l m : List UInt8} : bs l = bs m ↔ l = m := ⟨fun h => by rw [← bs_data l, h, bs_data], fun h => by rw [h]⟩
theorem bs_append (l m : List UInt8) : bs l ++ bs m = bs (l ++ m) := by
  apply ByteArray.ext; simp [bs]
theorem bs_extract (l : List UInt8) (i j : Nat) : (bs l).extract i j = bs ((l.take j).drop i) := by
  apply ByteArray.ext
  simp only [bs, ByteArray.data_extract]
  apply Array.ext'
  simp [List.extract_eq_take_drop, List.drop_take]
theorem byteAt_bs (l : List UInt8) (i : Nat) : byteAt (bs l) i = ((l[i]?.getD 0).toNat : Int) := by simp [byteAt, bs_data]
theorem bs_toList (l : List UInt8) : (bs l).toList = l := by rw [ByteArray.toList_eq, bs_data]
theorem byC_cons (b : UInt8) (l : List UInt8) : byC (b :: l) = .int .u8 b.toNat :: byC l := rfl
theorem byC_nil : byC [] = [] := rfl
theorem strCells_byC (s : ByteArray) : strCells s = byC s.data.toList := rfl

section
variable {P : Program} {H : Mem}

theorem fits_bytes {w : World} (hw : Fits w H) (e : TypeId) (s : ByteArray) : Fits (Lib.bytesWorld w e s) (H.upd w.heap.size ⟨true, grownCap w s.size 0 e, byC s.data.toList⟩) := by
  have hge := grownCap_ge w s.size 0 e
  have hold : ∀ {b : Nat} {o : Obj}, w.heap[b]? = some o → (Lib.bytesWorld w e s).heap[b]? = some o := by
    intro b o h1
    have hlt : b < w.heap.size := by
      rcases Nat.lt_or_ge b w.heap.size with h | h
      · exact h
      · simp [Array.getElem?_eq_none h] at h1
    rw [Lib.bytesWorld_at_old w e s b hlt]; exact h1
  refine ⟨?_, fun b x hx => ⟨(hw.2 b x hx).1, hold (hw.2 b x hx).2⟩, fun u hu => ?_, fun b x hb => (let ⟨c, h, h'⟩ := hw.4 b x hb; ⟨c, hold h, h'⟩)⟩
  case refine_2 =>
    obtain ⟨⟨s1, s2, s3, s4, s5⟩, h2, h3⟩ := hw.3 u hu
    refine ⟨⟨s1, s2, ?_, fun i hi => ?_, s5⟩, fun b B hb hr => ?_, h3⟩
    · have := (Array.getElem?_eq_some_iff.1 (Lib.bytesWorld_at_new w e s)).1; omega
    · rw [Lib.bytesWorld_at_old w e s i (by omega)]; exact s4 i hi
    · by_cases e1 : b = w.heap.size
      · omega
      · simp only [Mem.upd, e1, if_false] at hb; exact h2 b B hb hr
  intro b B hB
  by_cases h : b = w.heap.size
  · subst h
    rw [upd_get] at hB
    simp only [Option.some.injEq] at hB; subst hB
    refine ⟨_, Lib.bytesWorld_at_new w e s, _, e, _, _, rfl, ?_, ?_, fun _ i hi => by simp; omega⟩
    · simp only [Lib.bytesCells, Array.toList_append, Array.toList_map]; exact List.prefix_append _ _
    · simp only [Lib.bytesCells, Array.size_append, Array.size_map, Array.size_replicate]
      have : s.data.size = s.size := rfl
      omega
  · simp only [Mem.upd, h, if_false] at hB
    obtain ⟨o, h1, h2⟩ := hw.1 b B hB
    exact ⟨o, hold h1, h2⟩

/-- []byte(s). -/
theorem conv_bytes {S D e : TypeId} {u : TypeDesc} (hs : P.underlying S = some u) (hd : P.underlying D = some (.slice e)) (he : P.underlying e = some (.int .u8)) {l : List UInt8} {K : Value → Mem → Prop}
    (hK : ∀ b cap, H b = none → l.length ≤ cap → K (.slice (some ⟨b, 0, none⟩) l.length cap) (H.upd b ⟨true, cap, byC l⟩)) : ValW P (convert S D (.string (bs l))) H K := by
  intro w hw
  have hf := fits_bytes hw e (bs l)
  rw [bs_data] at hf
  refine ⟨_, _, _, Lib.run_convert_string_bytes w S D e (bs l) hs hd he, hf, ?_⟩
  have hge := grownCap_ge w (bs l).size 0 e
  rw [bs_size] at hge ⊢
  exact hK _ _ hw.fresh hge

/-- string(b). -/
theorem conv_string {S D e : TypeId} (hs : P.underlying S = some (.slice e)) (he : P.underlying e = some (.int .u8)) (hd : P.underlying D = some .string) {v : Value} {k : Nat} {l : List UInt8}
    (hv : SrcV 1 H v k (byC l)) {K : Value → Mem → Prop} (hK : K (.string (bs l)) H) : ValW P (convert S D v) H K := by
  intro w hw
  rcases hv with ⟨rfl, hl, a, c, rfl⟩ | ⟨ad, c, rfl, hr⟩
  · have : l = [] := by cases l with | nil => rfl | cons b l => simp [byC] at hl
    subst this
    cases a with
    | none => exact ⟨_, w, H, run_convert_bytes_nil w S e hs he 0 c D hd, hw, hK⟩
    | some a =>
      refine ⟨_, w, H, ?_, hw, hK⟩
      simp [convert, run_und hs, run_und he, run_und hd, Conv.bytesToString, loadCells, loadCellsFrom, bs, ByteArray.empty, ByteArray.emptyWithCapacity]
      rfl
  · have hlen := read_length hr
    obtain ⟨b, o, B, rfl, hb, hle, hcs⟩ := read_parts hr
    rw [Nat.mul_one] at hlen hcs hle
    rw [byC_length] at hlen
    have hrun := run_convert_bytes_arg (P := P) w S e hs he b o k c (l.map fun b => (b.toNat : Int)) (by simpa using hlen) (fun i hi => by
      refine hw.cell hb ?_
      have h1 : (byC l)[i]? = ((B.cs.drop o).take k)[i]? := by rw [hcs]
      rw [List.getElem?_take, if_pos hi, List.getElem?_drop] at h1
      rw [← h1]
      have hi' : i < l.length := by omega
      simp [byC, List.getD, hi']) D hd
    refine ⟨_, w, H, hrun, hw, ?_⟩
    have : strOfNums (l.map fun b => (b.toNat : Int)) = bs l := by
      simp [strOfNums, bs, Function.comp_def]
    rw [this]; exact hK

theorem append_own_str {T S U : TypeId} (hI : eInfo P T = some (1, 1, [.int .u8 0])) (hS : P.underlying S = some .string) {H0 : Mem} {v : Value} {l : Nat} {cs : List UInt8} {s : List UInt8}
    (ho : OwnV 1 H0 v l (byC cs) H) (hb : l + s.length ≤ 140737488355328) {K : Value → Mem → Prop}
    (hK : ∀ v' H', OwnV 1 H0 v' (l + s.length) (byC (cs ++ s)) H' → K v' H') : ValW P (Builtin.append_ #[T, S] U #[v, .string (bs s)]) H K := by
  obtain ⟨e', i, zv, hu, hi, hzv, hsz, hby, hzc⟩ := eInfo_parts hI
  have hzv' : zv.cells.size = 1 := by rw [← Array.length_toList, hzc]; rfl
  intro w hw
  have hss := bs_size s
  have h1 : (strCells (bs s)) = byC s := by rw [strCells_byC, bs_data]
  obtain ⟨hcl, ho⟩ := ho
  have hcl' := hcl
  rw [Nat.mul_one, byC_length] at hcl
  rcases ho with ⟨rfl, rfl, rfl⟩ | ⟨b, cap, r, hb0, rfl, hlc, hcr, rfl⟩
  · have hcs : cs = [] := List.eq_nil_of_length_eq_zero hcl
    subst hcs
    by_cases hk : s.length = 0
    · have hsn : s = [] := List.eq_nil_of_length_eq_zero hk
      subst hsn
      refine ⟨_, w, H, ?_, hw, hK _ _ OwnV.nil⟩
      simp [Builtin.append_, run_underlying hu, run_underlying hS, sizeOf, typeInfo, hi, Builtin.lenOf, Builtin.firstCells, bs_size]
    · have hr := run_append_nil_string (P := P) w T S U e' i zv hu hS hi hzv (bs s) (by omega) (by omega) (by rw [hby]; omega)
      have hge := grownCap_ge w (bs s).size 0 e'
      rw [show ((bs s).data.map fun b => Value.int .u8 b.toNat) = (byC s).toArray from by rw [← h1]; apply Array.ext'; simp [strCells]] at hr
      refine ⟨_, _, _, hr, fits_grown hw _ e' (cs := byC ([] ++ s)) (r := grownCap w (bs s).size 0 e') ?_ ?_, hK _ _ ⟨by simp [byC_length], .inr ⟨w.heap.size, grownCap w (bs s).size 0 e', _, hw.fresh, by simp [bs_size], by simp [bs_size] at hge ⊢; omega, by simp, rfl⟩⟩⟩
      · simp
      · simp only [Array.size_append, List.size_toArray, byC_length, size_zeroCells, hzv', Nat.mul_one]; omega
  · by_cases hroom : l + s.length ≤ cap
    · have hin : (byC cs).length + (byC s).length ≤ r := by rw [byC_length, byC_length]; omega
      obtain ⟨w', hst, hf⟩ := run_store_behind (P := P) hw (upd_get b _) hin (byC_one s)
      rw [upd_same, ← byC_append] at hf
      refine ⟨.slice (some ⟨b, 0, none⟩) (l + s.length) cap, w', _, ?_, hf, hK _ _ ⟨by simp [byC_length, hcl], .inr ⟨b, cap, r, hb0, rfl, hroom, hcr, rfl⟩⟩⟩
      have hfc := run_firstCells_string (P := P) w 1 (bs s)
      rw [h1, hss] at hfc
      rw [byC_length, hcl] at hst
      simp [Builtin.append_, run_underlying hu, run_underlying hS, sizeOf, typeInfo, hi, hsz, Builtin.lenOf, bs_size, hroom, hfc, add_none, hst]
    · have hread : (H0.upd b ⟨true, r, byC cs⟩).read ⟨b, 0, none⟩ (l * 1) = some (byC cs) := by
        simp only [Mem.read, upd_get, Option.bind_some, Blk.read]
        rw [if_pos (by show 0 + l * 1 ≤ (byC cs).length; rw [byC_length]; omega), List.drop_zero, Nat.mul_one, ← hcl, ← byC_length, List.take_length]
      obtain ⟨hlo, hco⟩ := src_cells hw hread
      have hr := run_append_grow_string (P := P) w T S U e' i zv hu hS hi hzv ⟨b, 0, none⟩ l cap (byC cs) (by rw [hsz]; exact hlo) hco (bs s) (by omega) (by omega) (growslice_fits (by omega) (by rw [hby]; omega))
      rw [h1, hss] at hr
      have hge := grownCap_ge w (l + s.length) cap e'
      have hfr := hw.fresh
      have hbn : w.heap.size ≠ b := by intro h; rw [h] at hfr; simp [Mem.upd] at hfr
      have h0 : H0 w.heap.size = none := by simpa [Mem.upd, hbn] using hfr
      refine ⟨_, _, _, hr, Fits.mono (H := H0.upd w.heap.size ⟨true, grownCap w (l + s.length) cap e', byC (cs ++ s)⟩) (fits_grown hw _ e' (cs := byC (cs ++ s)) (r := grownCap w (l + s.length) cap e') ?_ ?_) ?_,
        hK _ _ ⟨by simp [byC_length, hcl], .inr ⟨w.heap.size, _, _, h0, rfl, hge, by simp, rfl⟩⟩⟩
      · simp [byC_append]
      · simp only [Array.size_append, List.size_toArray, size_zeroCells, byC_length, hzv', Nat.mul_one]
        omega
      · refine ⟨?_, fun _ _ h => h, fun _ h => h, fun _ _ h => h⟩
        intro c' B' hB'
        by_cases e1 : c' = w.heap.size
        · subst e1; exact ⟨B', by rw [upd_get] at hB' ⊢; exact hB', B'.le_refl⟩
        · simp only [Mem.upd, e1, if_false] at hB'
          have : c' ≠ b := by rintro rfl; rw [hb0] at hB'; cases hB'
          exact ⟨B', by simp [Mem.upd, e1, this, hB'], B'.le_refl⟩

/-- make([]T, l, c). -/
theorem make_W {T : TypeId} {n by_ : Nat} {z : List Value} (hT : eInfo P T = some (n, by_, z)) (hz : z.length = n) {kl kc : IntKind} {l c : Int} (h0 : 0 ≤ l) (hlc : l ≤ c) (hb : (by_ : Int) * c ≤ 281474976710656) (h63 : c ≤ 9223372036854775807) {K : Value → Mem → Prop}
    (hK : ∀ b, H b = none → K (.slice (some ⟨b, 0, none⟩) l.toNat c.toNat) (H.upd b ⟨true, c.toNat * n, zerosL z c.toNat⟩)) : ValW P (Instr.makeSlice T (.int kl l) (.int kc c)) H K := by
  obtain ⟨e, i, zv, hu, hi, hzv, hsz, hby, hzc⟩ := eInfo_parts hT
  intro w hw
  have hr := run_make (P := P) w T e i zv hu hi hzv kl kc l c h0 hlc (by rw [hby]; exact hb) h63
  refine ⟨_, _, _, hr, ?_, hK _ hw.fresh⟩
  have hf := hw.alloc (madeCells zv.cells (c.toNat * i.size)) e
  have hcells : (madeCells zv.cells (c.toNat * i.size)).toList = zerosL z c.toNat := by
    subst hsz hzc
    have hzs : zv.cells.size = i.size := by simpa using hz
    unfold madeCells
    rw [Array.toList_map, Array.toList_range]
    generalize c.toNat = m
    induction m with
    | zero => simp [zerosL]
    | succ m ih =>
      rw [Nat.add_mul, Nat.one_mul, Nat.add_comm (m * i.size), List.range_add, List.map_append, List.map_map]
      rw [zerosL]
      congr 1
      · apply List.ext_getElem
        · simp [hzs]
        · intro j h1 h2
          have hj : j < zv.cells.size := by simpa using h2
          simp only [List.getElem_map, List.getElem_range, Nat.mod_eq_of_lt hj]
          rw [Array.getElem!_eq_getD, Array.getD_eq_getD_getElem?, Array.getElem?_eq_getElem hj]; simp
      · rw [← ih]
        apply List.map_congr_left
        intro j _
        simp [hzs]
  rw [hcells] at hf
  have : (madeCells zv.cells (c.toNat * i.size)).size = c.toNat * n := by rw [← hsz]; simp [madeCells]
  rw [this] at hf
  exact hf
theorem semW_make {e : Env} {T U : TypeId} {l c : Operand} {d : Option Tmp} {p : String} {ed : Array Edge} {g : Option (Nat × Bool)} {K : Value → Mem → Prop}
    (h : ValW P (Instr.makeSlice T (ev e l) (ev e c)) H K) : SemW P (execOp (ev e) ⟨d, .makeSlice T l c, U, p, ed, g⟩) H K := semW_val h
theorem zerosL_one (z : Value) (n : Nat) : zerosL [z] n = List.replicate n z := by
  induction n with
  | zero => rfl
  | succ n ih => simp [zerosL, ih, List.replicate_succ]

/-- A slice's literal. -/
theorem build_W {T : TypeId} {n by_ len : Nat} {z cs : List Value} (hT : eInfo P T = some (n, by_, z)) (hz : z.length = n) (hl : len * n ≤ 16777216) {parts : Array (Nat × Value)} (hf : fillL (fun i => some (i * n, n)) (zerosL z len) parts.toList = some cs) {K : Value → Mem → Prop}
    (hK : ∀ b, H b = none → K (.slice (some ⟨b, 0, none⟩) len len) (H.upd b ⟨true, cs.length, cs⟩)) : ValW P (Instr.buildSlice T len parts) H K := by
  obtain ⟨e, i, zv, hu, hi, hzv, hsz, hby, hzc⟩ := eInfo_parts hT
  intro w hw
  subst hsz hzc
  have hzs : zv.cells.size = i.size := by simpa using hz
  have hcells : ∀ m, ((Array.range (m * i.size)).map (zv.cells[· % zv.cells.size]!)).toList = zerosL zv.cells.toList m := by
    intro m
    rw [Array.toList_map, Array.toList_range]
    induction m with
    | zero => simp [zerosL]
    | succ m ih =>
      rw [Nat.add_mul, Nat.one_mul, Nat.add_comm (m * i.size), List.range_add, List.map_append, List.map_map]
      rw [zerosL]
      congr 1
      · apply List.ext_getElem
        · simp [hzs]
        · intro j h1 h2
          have hj : j < zv.cells.size := by simpa using h2
          simp only [List.getElem_map, List.getElem_range, Nat.mod_eq_of_lt hj]
          rw [Array.getElem!_eq_getD, Array.getD_eq_getD_getElem?, Array.getElem?_eq_getElem hj]; simp
      · rw [← ih]
        apply List.map_congr_left
        intro j _
        simp [hzs]
  have hzr : (zeroValue e).run P w = .ok zv w := by simp [zeroValue, typeInfo, program, Sem.run, hi, hzv]
  have hsr : (sizeOf e).run P w = .ok i.size w := by simp [sizeOf, typeInfo, program, Sem.run, hi]
  have key : ∀ zs : Array Value, ((Array.range (len * i.size)).map (zs[· % zs.size]!)).toList = zerosL zv.cells.toList len → ∃ cells : Array Value, Instr.fill (fun j => some (j * i.size, i.size)) ((Array.range (len * i.size)).map (zs[· % zs.size]!)) parts.toList = some cells ∧ cells.toList = cs := by
    intro zs hzs'
    refine ⟨cs.toArray, fillL_eq _ _ _ (by rw [hzs']; exact hf), by simp⟩
  have hlen : ¬ (len * i.size > 2 ^ 24) := by simp; omega
  by_cases h0 : len * i.size = 0
  · obtain ⟨cells, hfill, hcs⟩ := key #[] (by rw [← hcells]; simp [h0])
    subst hcs
    refine ⟨.slice (some ⟨w.heap.size, 0, none⟩) len len, w.alloc (.cells cells e), _, ?_, by simpa using hw.alloc cells e, hK _ hw.fresh⟩
    simp only [Instr.buildSlice, Sem.run_bind, run_und hu, Result.andThen_ok, hsr, if_neg hlen, if_pos h0, Sem.run_pure, hfill]
    simp [newRow, newObj, Sem.run]
  · obtain ⟨cells, hfill, hcs⟩ := key zv.cells (hcells len)
    subst hcs
    refine ⟨.slice (some ⟨w.heap.size, 0, none⟩) len len, w.alloc (.cells cells e), _, ?_, by simpa using hw.alloc cells e, hK _ hw.fresh⟩
    simp only [Instr.buildSlice, Sem.run_bind, run_und hu, Result.andThen_ok, hsr, if_neg hlen, if_neg h0, Sem.run_pure, hzr, hfill]
    simp [newRow, newObj, Sem.run]
theorem semW_build {e : Env} {T U : TypeId} {l : Nat} {ps : Array (Nat × Operand)} {d : Option Tmp} {p : String} {ed : Array Edge} {g : Option (Nat × Bool)} {K : Value → Mem → Prop}
    (h : ValW P (Instr.buildSlice T l (ps.map fun (i, x) => (i, ev e x))) H K) : SemW P (execOp (ev e) ⟨d, .buildSlice T l ps, U, p, ed, g⟩) H K := semW_val h
end
end Go.Proofs.YtgkolnknobgcmaaGreatV
end
section
namespace Go.Proofs.YtgkolnknobgcmaaGreatV
open Go

/-- A slice's first element's address. -/
def sdata : Value → Option Value
  | .slice none _ _ => some (.pointer none)
  | .slice (some a) _ (_ + 1) => some (.pointer (some a))
  | _ => none
/-- The value of an operation that reads alone. -/
def qV (P : Program) (e : Env) (H : Mem) : Op → Option Value
  | .move x | .assign x => some (ev e x)
  | .pick c a b => match ev e c with | .bool t => some (if t then ev e a else ev e b) | _ => none
  | .binOp o T x y _ => bin P o T (ev e x) (ev e y)
  | .unOp o _ x => un o (ev e x)
  | .convert s d x => conv (P.underlying s) (P.underlying d) (ev e x)
  | .index T x i => idx P T (ev e x) (ev e i)
  | .indexAddr T x i => idxA P T (ev e x) (ev e i)
  | .slice T x lo hi none => slc P T (ev e x) (lo.map (ev e)) (hi.map (ev e))
  | .fieldAddr T x i => fadr P T (ev e x) i
  | .field T x i => fval P T (ev e x) i
  | .extract x i => extr (ev e x) i
  | .nilCheck x => nilc (ev e x)
  | .makeFunc fn first captured => some (.func fn (first.map (ev e)) (captured.map (ev e)))
  | .build T parts => bld P T (parts.toList.map fun (i, x) => (i, ev e x))
  | .load T a => match ty P T, ev e a with
    | some (b, n), .pointer (some ad) => (H.read ad n).bind fun vs => if b then some (.agg vs.toArray) else match vs with | [v] => some v | _ => none
    | _, _ => none
  | .call ⟨.builtin .len, as, ts⟩ => match as.toList, ts.toList with
    | [x], [T] => lenV P T (ev e x)
    | _, _ => none
  | .call ⟨.builtin .min, as, _⟩ => minmax false (as.toList.map (ev e))
  | .call ⟨.builtin .max, as, _⟩ => minmax true (as.toList.map (ev e))
  | .call ⟨.builtin .unsafeSliceData, as, _⟩ => match as.toList with
    | [x] => sdata (ev e x)
    | _ => none
  | _ => none

section
variable {P : Program} {H : Mem}

/-- It yields just that, and leaves the world alone. -/
theorem run_qV {e : Env} {o : Oper} {v : Value} (h : qV P e H o.op = some v) {w : World} (hw : Fits w H) : (execOp (ev e) o).run P w = .ok (.value v) w := by
  obtain ⟨d, op, T, p, ed, g⟩ := o
  have hv : ∀ {s : Sem Value}, s.run P w = .ok v w → (do pure (.value (← s)) : Sem Next).run P w = .ok (.value v) w := by
    intro s hs; simp [hs]
  unfold qV at h
  cases op <;> simp only [reduceCtorEq, Option.some.injEq] at h
  case move => subst h; rfl
  case assign => subst h; rfl
  case pick c a b =>
    cases hc : ev e c <;> simp only [hc, reduceCtorEq, Option.some.injEq] at h
    subst h; simp [execOp, hc, asBool]
  case binOp => exact hv (run_bin h _ _)
  case unOp => exact hv (run_un h)
  case convert => exact hv (run_conv h)
  case index => exact hv (run_idx h)
  case indexAddr => exact hv (run_idxA h)
  case slice T x lo hi mx =>
    cases mx with
    | none => exact hv (run_slc h)
    | some m => simp only [reduceCtorEq] at h
  case fieldAddr => exact hv (run_fadr h)
  case field => exact hv (run_fval h)
  case extract => exact hv (run_extr h)
  case nilCheck x =>
    unfold nilc at h
    split at h
    · rename_i a ha; simp only [Option.some.injEq] at h; subst h; simp [execOp, ha]
    · rename_i f a b ha; simp only [Option.some.injEq] at h; subst h; simp [execOp, ha]
    · cases h
  case makeFunc => subst h; rfl
  case build => exact hv (run_build (by simpa using h))
  case load T a =>
    split at h
    · rename_i b n ad ht ha
      obtain ⟨u, hr, rfl⟩ := run_loadAt (P := P) hw ht (a := ad) (K := fun u => u = v) (by
        cases hr : H.read ad n with
        | none => simp [hr] at h
        | some vs =>
          simp only [hr, Option.bind_some] at h
          simp only [readK]
          cases b
          · simp only [Bool.false_eq_true, if_false] at h ⊢
            split at h
            · simp only [Option.some.injEq] at h; subst h; rfl
            · cases h
          · simp only [if_true, Option.some.injEq] at h ⊢
            exact h)
      simp [execOp, ha, hr]
    · cases h
  case call c =>
    obtain ⟨callee, as, ts⟩ := c
    cases callee <;> try (simp only [reduceCtorEq] at h; done)
    rename_i b
    cases b <;> simp only [reduceCtorEq] at h
    case len =>
      split at h
      · rename_i x T hx hT
        have e1 : as = #[x] := by rw [← Array.toList_inj]; simp [hx]
        have e2 : ts = #[T] := by rw [← Array.toList_inj]; simp [hT]
        subst e1 e2
        simp [execOp, resolve, invoke, builtin, run_len h]
      · cases h
    case unsafeSliceData =>
      split at h
      · rename_i x hx
        have e1 : as = #[x] := by rw [← Array.toList_inj]; simp [hx]
        subst e1
        unfold sdata at h
        split at h
        · rename_i n c hx2
          simp only [Option.some.injEq] at h
          subst h
          simp [execOp, resolve, invoke, builtin, hx2, Lib.run_unsafeSliceData_nil]
        · rename_i a n c hx2
          simp only [Option.some.injEq] at h
          subst h
          simp [execOp, resolve, invoke, builtin, hx2, Lib.run_unsafeSliceData_row]
        · cases h
      · cases h
    case min =>
      have := run_minmax (P := P) (w := w) (ts := ts) (U := T) h
      simp only [Bool.false_eq_true, if_false] at this
      simp only [execOp, resolve, invoke, builtin, Sem.run_bind, Sem.run_pure, Result.andThen_ok]
      rw [show as.map (ev e) = (as.toList.map (ev e)).toArray from by rw [← Array.toList_map], this]; rfl
    case max =>
      have := run_minmax (P := P) (w := w) (ts := ts) (U := T) h
      simp only [if_true] at this
      simp only [execOp, resolve, invoke, builtin, Sem.run_bind, Sem.run_pure, Result.andThen_ok]
      rw [show as.map (ev e) = (as.toList.map (ev e)).toArray from by rw [← Array.toList_map], this]; rfl

/-- Is f a function with a body? -/
def hasBody (P : Program) (f : FuncId) : Bool := match P.funcs[f]? with | some fn => fn.body.isSome && !(fn.name == "runtime.NumGoroutine") | none => false
theorem run_hasBody {f : FuncId} (h : hasBody P f = true) (args : Array Value) (w : World) : (callFunc f args).run P w = .ok (.enter f args) w := by
  unfold hasBody at h
  cases hf : P.funcs[f]? with
  | none => simp [hf] at h
  | some fn =>
    simp only [hf, Bool.and_eq_true, Bool.not_eq_true', beq_eq_false_iff_ne, ne_eq] at h
    obtain ⟨hb, hn⟩ := h
    cases hbo : fn.body with
    | none => simp [hbo] at hb
    | some c => simp [callFunc, program, Sem.run, hf, hn, hbo]

/-- A region that draws, read in the text's order: operations that read alone, calls that leave what is known as it is. -/
def pwQ (P : Program) (all : List Oper) : List Oper → Env → Mem → (Env → Prop) → Prop
  | [], e, _, K => K e
  | o :: r, e, H, K =>
    match o.guard with
    | none => qOpW P e H o fun v => pwQ P all r (e.put o.dst v) H K
    | some (j, want) => GuardW (gval all e j) want (qOpW P e H o fun v => pwQ P all r (e.put o.dst v) H K) (pwQ P all r (e.put o.dst undef) H K)
where
  qOpW (P : Program) (e : Env) (H : Mem) (o : Oper) (K : Value → Prop) (_x : Bx K := ⟨⟩) : Prop :=
    match o.op with
    | .call ⟨.value f, as, _⟩ => match ev e f with
      | .func (.func g) first captured => hasBody P g = true ∧ ∃ v, InvW P g (first ++ as.map (ev e) ++ captured) H (fun v' H' => v' = v ∧ H' = H) ∧ K v
      | _ => False
    | op => optK (qV P e H op) K

theorem agrees_eval {n : Nat} {a : Act} {e : Env} (h : Agrees n a e) (o : Oper) : execOp a.eval o = execOp (ev e) o := by rw [h.eval]

theorem pwQ_quiet {n : Nat} {ops : Array Oper} {Q : Act → Prop} {K : Env → Prop} (hK : ∀ a e, Agrees n a e → K e → Q a) :
    ∀ (r : List Oper), (∀ o ∈ r, dstOk n o = true) → ∀ (a : Act) (e : Env), Agrees n a e → pwQ P ops.toList r e H K → wpQuiet P ops (fun w => Fits w H) Q r a := by
  intro r
  induction r with
  | nil => intro _ a e ha h; exact hK a e ha h
  | cons o r ih =>
    intro hd a e ha h
    have hdo : ∀ t, o.dst = some t → t < n := by
      intro t ht
      have := hd o (by simp)
      simpa [dstOk, ht] using this
    have ih' := ih fun o ho => hd o (by simp [ho])
    have step : ∀ {K' : Value → Prop}, (∀ v, K' v → wpQuiet P ops (fun w => Fits w H) Q r (a.put o.dst v)) → pwQ.qOpW P e H o K' → o.quiet P a (fun w => Fits w H) (wpQuiet P ops (fun w => Fits w H) Q r) := by
      intro K' hn hq
      obtain ⟨d, op, T, p, ed, g⟩ := o
      unfold pwQ.qOpW at hq
      split at hq
      · rename_i f as ts hop
        simp only at hop; subst hop
        split at hq
        · rename_i gf first captured hf
          obtain ⟨hbody, v, hinv, hk⟩ := hq
          refine ⟨v, fun w hw => ?_, hn v hk⟩
          unfold Oper.quietAt
          rw [agrees_eval ha]
          obtain ⟨nx, w', H', hr, hf', hnx⟩ := hinv w hw
          rw [run_hasBody hbody] at hr
          simp only [Result.ok.injEq] at hr
          obtain ⟨rfl, rfl⟩ := hr
          have he : (execOp (ev e) ⟨d, .call ⟨.value f, as, ts⟩, T, p, ed, g⟩).run P w = .ok (.enter gf (first ++ as.map (ev e) ++ captured)) w := by
            simp only [execOp, resolve, hf, Deferred.ofValue, Sem.run_bind, Sem.run_pure, Result.andThen_ok, invoke]
            exact run_hasBody hbody _ _
          rw [he]
          refine ⟨rfl, (hnx w hf').mono ?_⟩
          rintro x w'' ⟨v', H'', rfl, hf'', rfl, rfl⟩
          exact ⟨rfl, hf''⟩
        · exact hq.elim
      · obtain ⟨v, hv, hk⟩ := optK_some hq
        refine ⟨v, fun w hw => ?_, hn v hk⟩
        unfold Oper.quietAt
        rw [agrees_eval ha, run_qV (o := ⟨d, op, T, p, ed, g⟩) hv hw]
        exact ⟨rfl, rfl⟩
    unfold pwQ at h
    unfold wpQuiet
    split at h
    · rename_i hg
      rw [if_pos (wanted_none hg)]
      exact step (fun v hk => ih' _ _ (ha.put hdo v) hk) h
    · rename_i j want hg
      have hy := yielded_gval ha ops j
      unfold GuardW at h
      split at h
      · rename_i b hb
        rw [hb] at hy
        simp only at hy
        by_cases hbw : b = want
        · subst hbw
          rw [if_pos (by simp [Region.wanted, hg, hy])]
          exact step (fun v hk => ih' _ _ (ha.put hdo v) hk) (h.1 (by simp))
        · rw [if_neg (by simp [Region.wanted, hg, hy, hbw])]
          exact ih' _ _ (ha.put hdo undef) (h.2 (by simp [hbw]))
      · rename_i hb
        have : yielded ops a.tmps j = none := by
          rw [hy]; split
          · rename_i b hb'; exact absurd hb' (hb b)
          · rfl
        rw [if_neg (by simp [Region.wanted, hg, this])]
        exact ih' _ _ (ha.put hdo undef) h

/-- The law for such a region. -/
theorem draw_quiet {n id : Nat} {ops : Array Oper} {Q : Exit → Env → Mem → Prop} {e : Env} (hm : P.follows .mixedOrders = true) (hB : Region.lexB .any ops = true) (hd : ops.toList.all (dstOk n) = true)
    (h : pwQ P ops.toList ops.toList e H (fun e' => Q .normal e' H)) : CodeW P n none (.region id ops true) Q e H := by
  intro a w ha hw
  refine (wpIn_wide (n := 0)).2 ?_
  refine wp_region_quiet (C := fun w => Fits w H) hm hB (hw.drewN _) ?_
  refine pwQ_quiet (n := n) (K := fun e' => Q .normal e' H) ?_ ops.toList (List.all_eq_true.1 hd) a e ha h
  intro a' e' ha' hq w' hw'
  exact ⟨e', H, ha', hw', hq⟩

/-! ### readers ahead, then writers in the text's order -/
def pwS (P : Program) (all : List Oper) : List Oper → Env → Mem → (Env → Prop) → Prop
  | [], e, _, K => K e
  | o :: r, e, H, K =>
    match o.guard with
    | none => optK (qV P e H o.op) fun v => pwS P all r (e.put o.dst v) H K
    | some (j, want) => GuardW (gval all e j) want (optK (qV P e H o.op) fun v => pwS P all r (e.put o.dst v) H K) (pwS P all r (e.put o.dst undef) H K)

theorem pwS_still {n : Nat} {ops : Array Oper} {Q : Act → Prop} {K : Env → Prop} {w : World} (hw : Fits w H) (hK : ∀ a e, Agrees n a e → K e → Q a) :
    ∀ (r : List Oper), (∀ o ∈ r, dstOk n o = true) → ∀ (a : Act) (e : Env), Agrees n a e → pwS P ops.toList r e H K → wpStill P ops w Q r a := by
  intro r
  induction r with
  | nil => intro _ a e ha h; exact hK a e ha h
  | cons o r ih =>
    intro hd a e ha h
    have hdo : ∀ t, o.dst = some t → t < n := by
      intro t ht
      have := hd o (by simp)
      simpa [dstOk, ht] using this
    have ih' := ih fun o ho => hd o (by simp [ho])
    have step : ∀ {K' : Value → Prop}, (∀ v, K' v → wpStill P ops w Q r (a.put o.dst v)) → optK (qV P e H o.op) K' → o.still P a w (wpStill P ops w Q r) := by
      intro K' hn hq
      obtain ⟨v, hv, hk⟩ := optK_some hq
      unfold Oper.still
      rw [agrees_eval ha, run_qV hv hw]
      exact ⟨rfl, hn v hk⟩
    unfold pwS at h
    unfold wpStill
    split at h
    · rename_i hg
      rw [if_pos (wanted_none hg)]
      exact step (fun v hk => ih' _ _ (ha.put hdo v) hk) h
    · rename_i j want hg
      have hy := yielded_gval ha ops j
      unfold GuardW at h
      split at h
      · rename_i b hb
        rw [hb] at hy
        simp only at hy
        by_cases hbw : b = want
        · subst hbw
          rw [if_pos (by simp [Region.wanted, hg, hy])]
          exact step (fun v hk => ih' _ _ (ha.put hdo v) hk) (h.1 (by simp))
        · rw [if_neg (by simp [Region.wanted, hg, hy, hbw])]
          exact ih' _ _ (ha.put hdo undef) (h.2 (by simp [hbw]))
      · rename_i hb
        have : yielded ops a.tmps j = none := by
          rw [hy]; split
          · rename_i b hb'; exact absurd hb' (hb b)
          · rfl
        rw [if_neg (by simp [Region.wanted, hg, this])]
        exact ih' _ _ (ha.put hdo undef) h

theorem draw_tail (k : Nat) {n id : Nat} {l : List Oper} {Q : Exit → Env → Mem → Prop} {e : Env} (hm : P.follows .mixedOrders = true) (hB : Region.lexTailB .any l.toArray k = true) (hd : l.all (fun o => dstOk n o && plainOp o) = true)
    (h : pwS P l (l.take k) e H (fun e' => pwOps P l (l.drop k) e' H (Q .normal))) : CodeW P n none (.region id l.toArray true) Q e H := by
  intro a w ha hw
  refine (wpIn_wide (n := 0)).2 ?_
  refine wp_region_still_tail k hm hB ?_
  have hd' : ∀ o ∈ l, dstOk n o = true ∧ plainOp o = true := fun o ho => by have := List.all_eq_true.1 hd o ho; simpa using this
  refine pwS_still (n := n) (H := H) (ops := l.toArray) (K := fun e' => pwOps P l (l.drop k) e' H (Q .normal)) (hw.drewN _) ?_ (l.take k) (fun o ho => (hd' o (List.mem_of_mem_take ho)).1) a e ha (by simpa using h)
  intro a' e' ha' hq
  exact pwOps_plain (n := n) (ops := l.toArray) (K := Q .normal) (fun a w e H ha hw hk => ⟨e, H, ha, hw, hk⟩) (l.drop k) (fun o ho => hd' o (List.mem_of_mem_drop ho)) a' _ e' H ha' (hw.drewN _) (by simpa using hq)
end
end Go.Proofs.YtgkolnknobgcmaaGreatV
end
section
namespace Go.Proofs.YtgkolnknobgcmaaGreatV
open Go

/-- The loop's record as it begins. -/
def rec0 (fn : FuncId) (tmps : Array Value) (ps : Array Tmp) (assign body : Code) (D : Nat) : Loop :=
  { state := .ready, pending := none, fn, tmps, params := ps, assign, body, defers := D }
def RecOf (n : Nat) (E : Env) (tmps : Array Value) : Prop := tmps.size = n ∧ ∀ t, tmps.getD t undef = E t
/-- yield's arguments in the loop's parameters. -/
def setAll (E : Env) : List Nat → List Value → Env
  | t :: ts, v :: vs => setAll (E.set t v) ts vs
  | _, _ => E
/-- How a round ends. -/
def roundQ (l : Nat) (r : Loop) (K : Value → Mem → Prop) : Exit → Env → Mem → Prop
  | .normal, _, H => H.o l = some (.loop { r with state := .busy }) ∧ K (.bool true) (H.updO l (some (.loop { r with state := .ready, pending := none })))
  | .ret, _, H => H.o l = some (.loop { r with state := .busy }) ∧ K (.bool false) (H.updO l (some (.loop { r with state := .done, pending := some .ret })))
  | .exit id, _, H => H.o l = some (.loop { r with state := .busy }) ∧ K (.bool false) (H.updO l (some (.loop { r with state := .done, pending := some (.exit id) })))
  | _, _, _ => False

section
variable {P : Program} {H : Mem}

theorem Fits.freshO {w : World} (hw : Fits w H) : H.o w.heap.size = none := by
  cases h : H.o w.heap.size with
  | none => rfl
  | some x => have := (hw.2 _ _ h).2; simp at this
theorem stays_putObj {u w : World} (h : Stays u w) {l : Nat} (hl : u.heap.size ≤ l) (o : Obj) : Stays u (w.putObj l o) := by
  obtain ⟨s1, s2, s3, s4, s5⟩ := h
  refine ⟨s1, s2, by simpa [World.putObj] using s3, fun i hi => ?_, s5⟩
  rw [World.putObj_heap_other (by omega)]; exact s4 i hi
theorem plain_putObj {w : World} {l b : Nat} {x : TypeId × Nat} {o : Obj} (h1 : noCells o = true) (h2 : w.heap[l]? = some o) (h : Plain w b x) (o' : Obj) : Plain (w.putObj l o') b x := by
  obtain ⟨c, hb, hs⟩ := h
  have hne : b ≠ l := by rintro rfl; rw [h2] at hb; cases hb; simp [noCells] at h1
  exact ⟨c, by rw [World.putObj_heap_other hne]; exact hb, hs⟩
theorem fits_updO {w : World} (hw : Fits w H) {l : Nat} {o o' : Obj} (ho : H.o l = some o) (hn : noCells o' = true) : Fits (w.putObj l o') (H.updO l (some o')) := by
  obtain ⟨h1, h2⟩ := hw.2 l o ho
  have hlt : l < w.heap.size := by
    rcases Nat.lt_or_ge l w.heap.size with h | h
    · exact h
    · simp [Array.getElem?_eq_none h] at h2
  refine ⟨fun b B hB => ?_, fun b x hx => ?_, fun u hu => ?_, fun b x hb => plain_putObj h1 h2 (hw.4 b x hb) _⟩
  · obtain ⟨y, h3, h4⟩ := hw.1 b B hB
    have hne : b ≠ l := by
      rintro rfl; rw [h2] at h3; cases h3
      obtain ⟨_, _, _, _, rfl, _⟩ := h4; simp [noCells] at h1
    exact ⟨y, by rw [World.putObj_heap_other hne]; exact h3, h4⟩
  · simp only [Mem.updO] at hx
    split at hx
    · rename_i e; subst e
      simp only [Option.some.injEq] at hx; subst hx
      exact ⟨hn, World.putObj_heap_same hlt⟩
    · rename_i hne
      obtain ⟨h5, h6⟩ := hw.2 b x hx
      exact ⟨h5, by rw [World.putObj_heap_other hne]; exact h6⟩
  · obtain ⟨q1, q2, q3⟩ := hw.3 u hu
    refine ⟨stays_putObj q1 (q3 l o ho) o', q2, fun b x hx => ?_⟩
    simp only [Mem.updO] at hx
    split at hx
    · rename_i e; subst e; exact q3 _ o ho
    · exact q3 b x hx
theorem fits_allocO {w : World} (hw : Fits w H) {o : Obj} (hn : noCells o = true) : Fits (w.alloc o) (H.updO w.heap.size (some o)) := by
  have hold : ∀ {b : Nat} {x : Obj}, w.heap[b]? = some x → (w.alloc o).heap[b]? = some x := by
    intro b x h
    have hlt : b < w.heap.size := by
      rcases Nat.lt_or_ge b w.heap.size with h' | h'
      · exact h'
      · simp [Array.getElem?_eq_none h'] at h
    show (w.heap.push _)[b]? = _
    rw [Array.getElem?_push_lt hlt]; simpa [Array.getElem?_eq_getElem hlt] using h
  refine ⟨fun b B hB => ?_, fun b x hx => ?_, fun u hu => ?_, fun b x hb => (let ⟨c, h, h'⟩ := hw.4 b x hb; ⟨c, hold h, h'⟩)⟩
  rotate_left 2
  · obtain ⟨⟨s1, s2, s3, s4, s5⟩, q2, q3⟩ := hw.3 u hu
    refine ⟨⟨s1, s2, by show _ ≤ (w.heap.push _).size; simp; omega, fun i hi => ?_, s5⟩, q2, fun b x hx => ?_⟩
    · show (w.heap.push _)[i]? = _
      rw [Array.getElem?_push_lt (by omega), ← s4 i hi]; simp [Array.getElem?_eq_getElem (show i < w.heap.size by omega)]
    · simp only [Mem.updO] at hx
      split at hx
      · omega
      · exact q3 b x hx
  · obtain ⟨y, h3, h4⟩ := hw.1 b B hB
    exact ⟨y, hold h3, h4⟩
  · simp only [Mem.updO] at hx
    split at hx
    · rename_i e; subst e
      simp only [Option.some.injEq] at hx; subst hx
      exact ⟨hn, World.alloc_heap_new w _⟩
    · obtain ⟨h5, h6⟩ := hw.2 b x hx
      exact ⟨h5, hold h6⟩
theorem fits_drop {w : World} (hw : Fits w H) (l : Nat) : Fits w (H.updO l none) :=
  hw.mono ⟨fun _ B h => ⟨B, h, B.le_refl⟩, fun b x hx => by simp only [Mem.updO] at hx; split at hx; cases hx; exact hx, fun _ h => h, fun _ _ h => h⟩
theorem fits_putDrop {w : World} (hw : Fits w H) {l : Nat} {o : Obj} (ho : H.o l = some o) (o' : Obj) : Fits (w.putObj l o') (H.updO l none) := by
  obtain ⟨h1, h2⟩ := hw.2 l o ho
  refine ⟨fun b B hB => ?_, fun b x hx => ?_, fun u hu => ?_, fun b x hb => plain_putObj h1 h2 (hw.4 b x hb) _⟩
  rotate_left 2
  · obtain ⟨q1, q2, q3⟩ := hw.3 u hu
    refine ⟨stays_putObj q1 (q3 l o ho) o', q2, fun b x hx => ?_⟩
    simp only [Mem.updO] at hx
    split at hx
    · cases hx
    · exact q3 b x hx
  · obtain ⟨y, h3, h4⟩ := hw.1 b B hB
    have hne : b ≠ l := by
      rintro rfl; rw [h2] at h3; cases h3
      obtain ⟨_, _, _, _, rfl, _⟩ := h4; simp [noCells] at h1
    exact ⟨y, by rw [World.putObj_heap_other hne]; exact h3, h4⟩
  · simp only [Mem.updO] at hx
    split at hx
    · cases hx
    · rename_i hne
      obtain ⟨h5, h6⟩ := hw.2 b x hx
      exact ⟨h5, by rw [World.putObj_heap_other hne]; exact h6⟩

theorem agrees_setAll {n : Nat} : ∀ (ts : List Nat) (vs : List Value) (tmps : Array Value) (E : Env), E.ds = [] → RecOf n E tmps → (∀ t ∈ ts, t < n) →
    Agrees n { tmps := (ts.zip vs).foldl (fun tmps (x : Nat × Value) => tmps.setIfInBounds x.1 x.2) tmps, defers := [] } (setAll E ts vs)
  | [], vs, tmps, E, hd, h, _ => ⟨by simp [setAll, hd], by simpa using h.1, by simpa [setAll] using h.2⟩
  | t :: ts, [], tmps, E, hd, h, _ => ⟨by simp [setAll, hd], by simpa using h.1, by simpa [setAll] using h.2⟩
  | t :: ts, v :: vs, tmps, E, hd, h, ht => by
    have hag : Agrees n { tmps := tmps, defers := [] } E := ⟨hd.symm, h.1, h.2⟩
    have hp := hag.put (d := some t) (fun s hs => by cases hs; exact ht t (by simp)) v
    exact agrees_setAll ts vs (tmps.setIfInBounds t v) (E.set t v) hd ⟨hp.size, hp.get⟩ (fun s hs => ht s (by simp [hs]))

/-- A call of yield: a round. -/
theorem yield_W {n l : Nat} {fn : FuncId} {tmps : Array Value} {ps : Array Tmp} {assign body : Code} {D : Nat} {args : Array Value} {E : Env} {K : Value → Mem → Prop}
    (ho : H.o l = some (.loop (rec0 fn tmps ps assign body D))) (hE : RecOf n E tmps) (hds : E.ds = []) (hsz : args.size = ps.size) (hps : ∀ t ∈ ps.toList, t < n) (ha : codeOk n assign = true) (hb : codeOk n body = true)
    (h : pw P n (some l) assign (thenQ (fun e1 H1 => H1.o l = some (.loop (rec0 fn tmps ps assign body D)) ∧
        pw P n (some l) body (roundQ l (rec0 fn tmps ps assign body D) K) e1 (H1.updO l (some (.loop { rec0 fn tmps ps assign body D with state := .busy })))) (fun _ _ _ => False)) (setAll E ps.toList args.toList) H) :
    YieldW P l args H K := by
  intro w hw
  have hl := (hw.2 l _ ho).2
  refine ⟨fn, _, assign, body, run_yield hl hsz, ?_⟩
  refine roundIn_of_wpIn (F := Fence.wide) (n := 0) trivial ?_
  have hag := agrees_setAll ps.toList args.toList tmps E hds hE hps
  have htm : ((ps.zip args).foldl (fun tmps (x : Nat × Value) => tmps.setIfInBounds x.1 x.2) tmps) = (ps.toList.zip args.toList).foldl (fun tmps (x : Nat × Value) => tmps.setIfInBounds x.1 x.2) tmps := by
    rw [← Array.foldl_toList, Array.toList_zip]
  have hpw := pw_sound (r := some l) assign ha _ _ H h _ w hag hw
  show assign.wpIn (GF (some l)) 0 P _ _ w
  rw [show (rec0 fn tmps ps assign body D).params = ps from rfl, show (rec0 fn tmps ps assign body D).tmps = tmps from rfl]
  rw [htm]
  refine Go.wpIn_mono hpw ?_
  rintro x a1 w1 ⟨e1, H1, ha1, hw1, hq⟩
  cases x with
  | normal =>
    obtain ⟨ho1, hq⟩ := hq
    have hl1 := (hw1.2 l _ ho1).2
    refine ⟨_, run_beginRound hl1 rfl, ?_⟩
    have hw2 := fits_updO hw1 ho1 (o' := .loop { rec0 fn tmps ps assign body D with state := .busy }) rfl
    show body.wpIn (GF (some l)) 0 P _ a1 _
    refine Go.wpIn_mono (pw_sound (r := some l) body hb _ e1 _ hq a1 _ ha1 hw2) ?_
    rintro y a2 w3 ⟨e2, H2, ha2, hw3, hr⟩
    cases y <;> simp only [roundQ] at hr
    case normal =>
      obtain ⟨ho2, hk⟩ := hr
      exact ⟨_, _, run_endRound none (hw3.2 l _ ho2).2, _, _, rfl, fits_updO hw3 ho2 rfl, hk⟩
    case ret =>
      obtain ⟨ho2, hk⟩ := hr
      exact ⟨_, _, run_endRound (some .ret) (hw3.2 l _ ho2).2, _, _, rfl, fits_updO hw3 ho2 rfl, hk⟩
    case exit id =>
      obtain ⟨ho2, hk⟩ := hr
      exact ⟨_, _, run_endRound (some (.exit id)) (hw3.2 l _ ho2).2, _, _, rfl, fits_updO hw3 ho2 rfl, hk⟩
  | _ => exact hq.elim

/-- The statement. -/
theorem rangeFunc_W {n : Nat} {g : Operand} {ps : Array Tmp} {assign body : Code} {Q : Exit → Env → Mem → Prop} {e : Env} (hds : e.ds = []) {gf : FuncId} {first cap : Array Value} (hg : ev e g = .func (.func gf) first cap) (hbody : hasBody P gf = true)
    (h : ∀ D l fn tmps, H D = none → H l = none → H.o D = none → H.o l = none → D ≠ l → RecOf n e tmps →
      InvW P gf (first ++ #[.func (.yield l) #[] #[]] ++ cap) ((H.updO D (some (.deferred (some [])))).updO l (some (.loop (rec0 fn tmps ps assign body D))))
        (fun _ H' => ∃ r, H'.o l = some (.loop r) ∧ r.state ≠ .busy ∧
          ((r.pending = none ∧ Q .normal ⟨e.get, [⟨.collected D, #[]⟩]⟩ (H'.updO l none)) ∨
           ∃ c, r.pending = some c ∧ codeOk n c = true ∧ pw P n none c Q ⟨e.get, [⟨.collected D, #[]⟩]⟩ (H'.updO l none)))) :
    CodeW P n none (.rangeFunc g ps assign body) Q e H := by
  intro a w ha hw
  refine wpIn_rangeFunc (F := Fence.wide) (n := 0) fun fn _ => ?_
  have hw1 := fits_allocO hw (o := .deferred (some [])) rfl
  have hw2 := fits_allocO hw1 (o := .loop (rec0 fn a.tmps ps assign body w.heap.size)) rfl
  have hsz : (w.alloc (.deferred (some []))).heap.size = w.heap.size + 1 := by show (w.heap.push _).size = _; simp
  rw [hsz] at hw2
  have hfr := hw.fresh
  have hfr1 : H (w.heap.size + 1) = none := by have := hw1.fresh; rw [hsz] at this; exact this
  have hfo := hw.freshO
  have hfo1 : H.o (w.heap.size + 1) = none := by
    have := hw1.freshO; rw [hsz] at this; simpa [Mem.updO] using this
  have hrec : RecOf n e a.tmps := ⟨ha.size, ha.get⟩
  have hinv := h w.heap.size (w.heap.size + 1) fn a.tmps hfr hfr1 hfo hfo1 (by omega) hrec
  have hev : a.eval g = .func (.func gf) first cap := by rw [ha.eval]; exact hg
  refine ⟨w.heap.size + 1, _, _, ⟨.fn (.func gf) cap, first ++ #[.func (.yield (w.heap.size + 1)) #[] #[]]⟩, (w.alloc (.deferred (some []))).alloc (.loop (rec0 fn a.tmps ps assign body w.heap.size)), gf, first ++ #[.func (.yield (w.heap.size + 1)) #[] #[]] ++ cap, (w.alloc (.deferred (some []))).alloc (.loop (rec0 fn a.tmps ps assign body w.heap.size)), run_enterLoop_outer fn a.tmps ps assign body, ?_, fun _ _ => trivial, ?_, fun h => by simp [Fence.wide] at h, ?_⟩
  · simp [resolve, hev, Deferred.ofValue, show ∀ v, a.eval (.const v) = v from fun _ => rfl]; rfl
  · simp only [invoke]; exact run_hasBody hbody _ _
  · obtain ⟨nx, w', H', hr, hf, hk⟩ := hinv _ hw2
    rw [run_hasBody hbody] at hr
    simp only [Result.ok.injEq] at hr
    obtain ⟨rfl, rfl⟩ := hr
    refine (callsIn_wide (n := 0)).2 ((hk _ hf).mono ?_)
    rintro x w3 ⟨v, H3, rfl, hw3, r, ho, hbusy, hq⟩
    have hl3 := (hw3.2 _ _ ho).2
    refine ⟨r.pending, _, run_endLoop hl3 hbusy, ?_⟩
    have hw4 := fun p => fits_putDrop hw3 ho (.loop { r with state := .exhausted, pending := p })
    have hag : Agrees n { a with defers := [{ target := .collected w.heap.size, args := #[] }] ++ a.defers } ⟨e.get, [⟨.collected w.heap.size, #[]⟩]⟩ := by
      refine ⟨?_, ha.size, ha.get⟩
      rw [show a.defers = [] from by rw [ha.defers, hds]]; rfl
    rcases hq with ⟨hp, hq⟩ | ⟨c, hp, hc, hq⟩
    · rw [hp]; exact ⟨_, _, hag, hw4 _, hq⟩
    · rw [hp]; exact pw_sound (r := none) c hc Q _ _ hq _ _ hag (hw4 _)
end
end Go.Proofs.YtgkolnknobgcmaaGreatV
end
section
namespace Go.Proofs.YtgkolnknobgcmaaGreatV
open Go
section
variable {P : Program} {H : Mem}
theorem Mem.le_upd' {H H' : Mem} (h : H.le H') {n : Nat} (hn : H' n = none) (B : Blk) : H.le (H'.upd n B) := Mem.le_trans h (Mem.le_upd hn B)
theorem Mem.le_updO {H H' : Mem} (h : H.le H') {l : Nat} (hl : H.o l = none) (x : Option Obj) : H.le (H'.updO l x) :=
  ⟨h.1, fun b y hb => by
    have hne : b ≠ l := by rintro rfl; rw [hl] at hb; cases hb
    simp only [Mem.updO, hne, if_false]; exact h.2 b y hb, h.3, h.4⟩
/-- What a call leaves may be forgotten. -/
theorem InvW.weak {f : FuncId} {args : Array Value} {K : Value → Mem → Prop} (h : InvW P f args H (fun v H' => ∃ H2, H2.le H' ∧ K v H2)) : InvW P f args H K := by
  intro w hw
  obtain ⟨nx, w', H', hr, hf, hn⟩ := h w hw
  cases nx with
  | value v => obtain ⟨H2, hle, hk⟩ := hn; exact ⟨_, w', H2, hr, hf.mono hle, hk⟩
  | skip => obtain ⟨H2, hle, hk⟩ := hn; exact ⟨_, w', H2, hr, hf.mono hle, hk⟩
  | enter g as =>
    refine ⟨_, w', H', hr, hf, ?_⟩
    intro w1 hw1
    refine (hn w1 hw1).mono ?_
    rintro x w2 ⟨v, H3, hx, hf3, H2, hle, hk⟩
    exact ⟨v, H2, hx, hf3.mono hle, hk⟩
  | _ => exact hn.elim
theorem InvW.mono {f : FuncId} {args : Array Value} {K K' : Value → Mem → Prop} (h : InvW P f args H K) (hk : ∀ v H', K v H' → K' v H') : InvW P f args H K' := by
  intro w hw
  obtain ⟨nx, w', H', hr, hf, hn⟩ := h w hw
  cases nx with
  | value v => exact ⟨_, w', H', hr, hf, hk _ _ hn⟩
  | skip => exact ⟨_, w', H', hr, hf, hk _ _ hn⟩
  | enter g as =>
    refine ⟨_, w', H', hr, hf, ?_⟩
    intro w1 hw1
    refine (hn w1 hw1).mono ?_
    rintro x w2 ⟨v, H3, hx, hf3, hk3⟩
    exact ⟨v, H3, hx, hf3, hk _ _ hk3⟩
  | _ => exact hn.elim
theorem InvW.from {f : FuncId} {args : Array Value} {H0 : Mem} {K : Value → Mem → Prop} (hle : H0.le H) (h : InvW P f args H0 K) : InvW P f args H K := fun w hw => h w (hw.mono hle)
theorem LoopW.from {n : Nat} {r : Option Nat} {c : Code} {Q : Exit → Env → Mem → Prop} {e : Env} {H0 : Mem} (hle : H0.le H) (h : LoopW P n r c Q e H0) : LoopW P n r c Q e H :=
  fun a w ha hw => h a w ha (hw.mono hle)
theorem CodeW.from {n : Nat} {r : Option Nat} {c : Code} {Q : Exit → Env → Mem → Prop} {e : Env} {H0 : Mem} (hle : H0.le H) (h : CodeW P n r c Q e H0) : CodeW P n r c Q e H :=
  fun a w ha hw => h a w ha (hw.mono hle)
/-- A function of the program, of which the kit knows what a call comes to. -/
theorem invW_of_calls {f : FuncId} {args : Array Value} {K : Value → Mem → Prop} (hb : hasBody P f = true)
    (h : ∀ w, Fits w H → Calls P f args w fun x w' => ∃ v H', x = .returned v ∧ Fits w' H' ∧ K v H') : InvW P f args H K :=
  fun w hw => ⟨_, w, H, run_hasBody hb args w, hw, h⟩
theorem Fits.drewN' {w : World} (h : Fits w H) (n : Nat) : Fits (w.drewN n) H := h.like rfl rfl rfl rfl
theorem YieldW.mono {l : Nat} {args : Array Value} {K K' : Value → Mem → Prop} (h : YieldW P l args H K) (hk : ∀ v H', K v H' → K' v H') : YieldW P l args H K' := by
  intro w hw
  obtain ⟨f, tmps, assign, body, hr, hi⟩ := h w hw
  refine ⟨f, tmps, assign, body, hr, hi.mono ?_⟩
  rintro x w2 ⟨v, H3, hx, hf, hk3⟩
  exact ⟨v, H3, hx, hf, hk _ _ hk3⟩
/-- A scope whose labels are not jumped to. -/
def noG (Q : Exit → Env → Mem → Prop) : Exit → Env → Mem → Prop
  | .goto _, _, _ => False
  | x, e, H => Q x e H
theorem scope_W {n : Nat} {c : Code} {Q : Exit → Env → Mem → Prop} {e : Env} (hc : codeOk n c = true) (h : pw P n none c (noG Q) e H) : CodeW P n none (.scope c) Q e H := by
  intro a w ha hw
  refine (wpIn_wide (n := 0)).2 (wp_scope_straight ?_)
  have := (wpIn_wide (n := 0)).1 (pw_sound (r := none) c hc (noG Q) e H h a w ha hw)
  refine Go.wp_mono this ?_
  rintro x a1 w1 ⟨e1, H1, ha1, hw1, hq⟩
  cases x <;> first | exact ⟨e1, H1, ha1, hw1, hq⟩ | exact hq.elim
theorem semW_range {e : Env} {T U : TypeId} {x : Operand} {d : Option Tmp} {p : String} {ed : Array Edge} {g : Option (Nat × Bool)} {K : Value → Mem → Prop} {s : ByteArray} (hx : ev e x = .string s) (hT : P.underlying T = some .string)
    (h : ∀ l, H l = none → H.o l = none → K (.pointer (some ⟨l, 0, none⟩)) (H.updO l (some (.stringIter s 0)))) : SemW P (execOp (ev e) ⟨d, .range T x, U, p, ed, g⟩) H K := by
  intro w hw
  refine ⟨.value (.pointer (some ⟨w.heap.size, 0, none⟩)), w.alloc (.stringIter s 0), _, ?_, fits_allocO hw (o := .stringIter s 0) rfl, h _ hw.fresh hw.freshO⟩
  have := run_range_string (P := P) w T s hT
  simp only [World.iter] at this
  simp [execOp, hx, this]
theorem semW_next_end {e : Env} {U : TypeId} {x : Operand} {d : Option Tmp} {p : String} {ed : Array Edge} {g : Option (Nat × Bool)} {K : Value → Mem → Prop} {s : ByteArray} {l pos : Nat} (hx : ev e x = .pointer (some ⟨l, 0, none⟩)) (hl : H.o l = some (.stringIter s pos)) (hp : ¬ pos < s.size)
    (h : K (.tuple #[.bool false]) H) : SemW P (execOp (ev e) ⟨d, .next x true, U, p, ed, g⟩) H K := by
  intro w hw
  refine ⟨.value (.tuple #[.bool false]), w, H, ?_, hw, h⟩
  simp [execOp, hx, Lib.run_next_end_at w l s pos U (hw.2 _ _ hl).2 hp]
theorem semW_next {e : Env} {U : TypeId} {x : Operand} {d : Option Tmp} {p : String} {ed : Array Edge} {g : Option (Nat × Bool)} {K : Value → Mem → Prop} {s : ByteArray} {l pos : Nat} (hx : ev e x = .pointer (some ⟨l, 0, none⟩)) (hl : H.o l = some (.stringIter s pos)) (hp : pos < s.size)
    (h : K (.tuple #[.bool true, .int .i64 pos, .int .i32 (Utf8.decode s pos).1]) (H.updO l (some (.stringIter s (pos + (Utf8.decode s pos).2))))) : SemW P (execOp (ev e) ⟨d, .next x true, U, p, ed, g⟩) H K := by
  intro w hw
  refine ⟨.value (.tuple #[.bool true, .int .i64 pos, .int .i32 (Utf8.decode s pos).1]), w.putObj l (.stringIter s (pos + (Utf8.decode s pos).2)), _, ?_, fits_updO hw hl rfl, h⟩
  simp [execOp, hx, Lib.run_next_any_at w l s pos U (hw.2 _ _ hl).2 hp, World.iterAt, World.putObj]
theorem updO_idem {H : Mem} {l : Nat} {x : Option Obj} (h : H.o l = x) : H.updO l x = H := by
  obtain ⟨c, o, k, p⟩ := H
  simp only [Mem.updO, Mem.mk.injEq, true_and, and_true]
  funext b
  split
  · rename_i e; subst e; exact h.symm
  · rfl
theorem updO_o_ne {H : Mem} {l m : Nat} {x : Option Obj} (h : m ≠ l) : (H.updO l x).o m = H.o m := if_neg h
theorem updO_o_same {H : Mem} {l : Nat} {x : Option Obj} : (H.updO l x).o l = x := if_pos rfl
theorem upd_o {H : Mem} {b : Nat} {B : Blk} : (H.upd b B).o = H.o := rfl
theorem mk_bs (a : Array UInt8) : ByteArray.mk a = bs a.toList := by simp [bs]
theorem bs_eq {l m : List UInt8} : (bs l = bs m) = (l = m) := propext bs_inj
/-- All of it in one. -/
theorem VA : type_of% @V0 ∧ type_of% @V1 ∧ type_of% @V2 ∧ type_of% @V3 ∧ type_of% @V4 ∧ type_of% @V5 ∧ type_of% @V6 ∧ type_of% @V7 ∧ type_of% @V8 ∧ type_of% V9 ∧ type_of% @List.size_toArray.{0} ∧ type_of% @List.toList_toArray.{0} ∧ type_of% @List.append_toArray.{0} ∧ type_of% @List.map_toArray.{0, 0} ∧
    type_of% Bool.false_eq_true ∧ type_of% Bool.not_true ∧ type_of% Bool.not_false ∧ type_of% Bool.true_and ∧ type_of% Bool.and_true ∧ type_of% Bool.and_self ∧ type_of% @decide_true ∧ type_of% @decide_false ∧ type_of% Int.ediv_one ∧ type_of% @mk_bs ∧ type_of% @bs_eq ∧ type_of% @bs_size ∧ type_of% @bs_append ∧ type_of% @Int.cast_ofNat_Int :=
  ⟨@V0, @V1, @V2, @V3, @V4, @V5, @V6, @V7, @V8, V9, @List.size_toArray.{0}, @List.toList_toArray.{0}, @List.append_toArray.{0}, @List.map_toArray.{0, 0}, Bool.false_eq_true, Bool.not_true, Bool.not_false, Bool.true_and, Bool.and_true, Bool.and_self, @decide_true, @decide_false, Int.ediv_one, @mk_bs, @bs_eq, @bs_size, @bs_append, @Int.cast_ofNat_Int⟩
end
end Go.Proofs.YtgkolnknobgcmaaGreatV
end
section
namespace Go.Proofs.YtgkolnknobgcmaaGreatV
open Go
section
variable {P : Program} {H : Mem}
def eqLit : Option TypeDesc → Value → Value → Option Bool
  | some (.int _), .int k x, .int k' y => if k = k' then some (x == y) else none
  | some .bool, .bool x, .bool y => some (x == y)
  | some .string, .string s, .string t => some (decide (s = t))
  | _, _, _ => none
theorem run_eqLit {d : Nat} {t : TypeId} {a c : Value} {b : Bool} {w : World} (h : eqLit (P.underlying t) a c = some b) : (Op.equalIn (d + 1) t a c).run P w = .ok b w := by
  unfold eqLit at h
  split at h
  · rename_i hu; split at h
    · rename_i hk; subst hk; cases h; exact run_equalIn_int w d t _ _ _ _ hu
    · cases h
  · rename_i hu; cases h; exact run_equalIn_bool' w d t _ _ hu
  · rename_i s t' hu; cases h
    rw [run_equalIn_string w d t _ _ hu]
    congr 1
    rw [Bool.eq_iff_iff, beq_iff_eq, decide_eq_true_eq, ByteArray.toList_eq, ByteArray.toList_eq]
    exact ⟨fun h => by rw [← bs_of s, h, bs_of], fun h => by rw [h]⟩
  · cases h
def FlatEq (P : Program) (xs ys : Array Value) : List Field → Bool → Prop
  | [], r => r = true
  | f :: fs, r => (f.name == "_") = false ∧ ∃ a c b s, ty P f.type = some (false, 1) ∧ xs[f.offset]? = some a ∧ ys[f.offset]? = some c ∧ eqLit (P.underlying f.type) a c = some b ∧ FlatEq P xs ys fs s ∧ r = (b && s)
theorem run_flat {d : Nat} {xs ys : Array Value} {w : World} : ∀ {fs : List Field} {r : Bool}, FlatEq P xs ys fs r → (Op.eqFields (d + 1) xs ys fs).run P w = .ok r w
  | [], r, h => by cases h; simp [Op.eqFields]
  | f :: fs, r, ⟨hn, a, c, b, s, ht, hx, hy, hl, hf, hr⟩ => by
    have hn' : f.name ≠ "_" := by simpa using hn
    have hp : ∀ (zs : Array Value) (v : Value), zs[f.offset]? = some v → (part f.type zs f.offset).run P w = .ok v w := fun zs v hz => by
      refine run_part ht ?_
      simp [partV, hz]
    have ih := run_flat (d := d) (w := w) hf
    rw [Op.eqFields]
    simp only [if_pos hn', Sem.run_bind, hp xs a hx, hp ys c hy, run_eqLit hl, Result.andThen_ok]
    subst hr
    cases b
    · simp
    · simpa using ih
theorem semW_eqS {e : Env} {T U V0 : TypeId} {x y : Operand} {d : Option Tmp} {p : String} {ed : Array Edge} {g : Option (Nat × Bool)} {K : Value → Mem → Prop} {xs ys : Array Value} {fs : Array Field} {r : Bool}
    (hx : ev e x = .agg xs) (hy : ev e y = .agg ys) (hu : P.underlying T = some (.struct fs)) (hp : P.stoodInHeld T = false) (hg : P.eqGuardType P.depth T = false) (h : FlatEq P xs ys fs.toList r) (hK : K (.bool r) H) :
    SemW P (execOp (ev e) ⟨d, .binOp .eql T x y U, V0, p, ed, g⟩) H K := by
  intro w hw
  refine ⟨.value (.bool r), w, H, ?_, hw, hK⟩
  have hf : P.fieldsOf T = fs := by simp [Program.fieldsOf, hu]
  have he : (binOp .eql T (.agg xs) (.agg ys)).run P w = .ok (.bool r) w := by
    rw [run_eql_struct, show (10000 : Nat) = 9999 + 1 from rfl, run_equalIn_agg w 9999 T xs ys (by rw [hf]; exact hu) hp, hf, show (9999 : Nat) = 9998 + 1 from rfl, run_flat h]; rfl
  simp [execOp, hx, hy, run_eqGuard_agg w .eql T x y xs ys hg, he]
end
end Go.Proofs.YtgkolnknobgcmaaGreatV
end
section
namespace Go.Proofs.YtgkolnknobgcmaaGreatV
open Go
/-- A function called as a deferred call. -/
def DefW (P : Program) (f : FuncId) (args : Array Value) (H : Mem) (K : Mem → Prop) (_x : Bx K := ⟨⟩) : Prop :=
  ∀ w u, Fits w H → CallsDIn Fence.wide 0 P f args u w fun x u' w' => u' = u ∧ ∃ v H', x = .returned v ∧ Fits w' H' ∧ K H'
/-- How the code of such a function ends: it has deferred nothing itself. -/
def endD (P : Program) (rs : List ResultVar) (K : Mem → Prop) : Exit → Env → Mem → Prop
  | .normal, e, H | .ret, e, H => e.ds = [] ∧ retK (retVals P H e rs) fun _ => K H
  | _, _, _ => False
section
variable {P : Program} {H : Mem}
theorem defW_of_pw {f : FuncId} {fn : Func} {c : Code} {args : Array Value} {K : Mem → Prop} (hf : P.funcs[f]? = some fn) (hb : fn.body = some c)
    (hok : codeOk fn.ntmps c = true) (hn : args.size ≤ fn.ntmps)
    (h : pw P fn.ntmps none c (endD P fn.results.toList K) (initE args.toList) H) : DefW P f args H K := by
  intro w u hw
  refine callsDIn_of_wp (F := Fence.wide) (n := 0) (R := fun x w' => ∃ v H', x = .returned v ∧ Fits w' H' ∧ K H') hf hb trivial ?_ rfl
  have hag : Agrees fn.ntmps { tmps := args ++ Array.replicate (fn.ntmps - args.size) undef, defers := [] } (initE args.toList) := by
    refine ⟨rfl, by simp; omega, fun t => ?_⟩
    simp only [initE, Array.getD_eq_getD_getElem?, Array.getElem?_append, Array.getElem?_replicate, Array.getElem?_toList]
    by_cases ht : t < args.size
    · simp [ht]
    · rw [if_neg ht, Array.getElem?_eq_none (by omega)]
      split <;> rfl
  refine Go.wpIn_mono (pw_sound c hok _ _ H h _ w hag hw) ?_
  rintro x a' w' ⟨e', H', ha', hw', hq⟩
  have key : e'.ds = [] ∧ (retK (retVals P H' e' fn.results.toList) fun _ => K H') → a'.defers = [] ∧ ∃ v, (results fn a'.tmps).run P w' = .ok v w' ∧ ∃ v' H', Ending.returned v = .returned v' ∧ Fits w' H' ∧ K H' := by
    rintro ⟨hd, hq⟩
    refine ⟨by rw [ha'.defers, hd], ?_⟩
    unfold retK at hq
    split at hq
    · rename_i vs hvs
      exact ⟨_, run_results' ha'.get hw' hvs, _, H', rfl, hw', hq⟩
    · exact hq.elim
  cases x with
  | normal => exact key hq
  | ret => exact key hq
  | _ => exact hq.elim
theorem pwOps_then {r : Option Nat} {n : Nat} {ops : Array Oper} {Q : Exit → Act → World → Prop} {K : Env → Mem → Prop} {rest : List Oper} (hK : ∀ a w e H, Agrees n a e → Fits w H → K e H → wpListIn (GF r) 0 P ops Q rest a w) :
    ∀ (l : List Oper), (∀ o ∈ l, dstOk n o = true) → ∀ (a : Act) (w : World) (e : Env) (H : Mem), Agrees n a e → Fits w H → pwOps P ops.toList l e H K → wpListIn (GF r) 0 P ops Q (l ++ rest) a w := by
  intro l
  induction l with
  | nil => intro _ a w e H ha hw h; exact hK a w e H ha hw h
  | cons o l ih =>
    intro hd a w e H ha hw h
    have hdo : ∀ t, o.dst = some t → t < n := by
      intro t ht
      have := hd o (by simp)
      simpa [dstOk, ht] using this
    have ih' := ih fun o ho => hd o (by simp [ho])
    unfold pwOps at h
    rw [List.cons_append]
    unfold wpListIn
    split at h
    · rename_i hg
      rw [if_pos (wanted_none hg)]
      exact op_wp ha hw h fun v w' H' hf hk => ih' _ _ _ _ (ha.put hdo v) hf hk
    · rename_i j want hg
      have hy := yielded_gval ha ops j
      unfold GuardW at h
      split at h
      · rename_i b hb
        rw [hb] at hy
        simp only at hy
        by_cases hbw : b = want
        · subst hbw
          rw [if_pos (by simp [Region.wanted, hg, hy])]
          exact op_wp ha hw (h.1 (by simp)) fun v w' H' hf hk => ih' _ _ _ _ (ha.put hdo v) hf hk
        · rw [if_neg (by simp [Region.wanted, hg, hy, hbw])]
          exact ⟨fun f _ => GF_fn r f, ih' _ _ _ _ (ha.put hdo undef) hw (h.2 (by simp [hbw]))⟩
      · rename_i hb
        have : yielded ops a.tmps j = none := by
          rw [hy]; split
          · rename_i b hb'; exact absurd hb' (hb b)
          · rfl
        rw [if_neg (by simp [Region.wanted, hg, this])]
        exact ⟨fun f _ => GF_fn r f, ih' _ _ _ _ (ha.put hdo undef) hw h⟩
theorem codeW_seq {n : Nat} {r : Option Nat} {c d : Code} {Q : Exit → Env → Mem → Prop} {e : Env} (h : CodeW P n r c (thenQ (fun e H => CodeW P n r d Q e H) Q) e H) : CodeW P n r (.seq c d) Q e H := by
  intro a w ha hw
  refine wpIn_seq (Go.wpIn_mono (h a w ha hw) ?_)
  rintro x a' w' ⟨e', H', ha', hw', hq⟩
  cases x with
  | normal => exact hq a' w' ha' hw'
  | _ => exact ⟨e', H', ha', hw', hq⟩
theorem codeW_cond (t : Bool) {n : Nat} {r : Option Nat} {x : Operand} {c d : Code} {Q : Exit → Env → Mem → Prop} {e : Env} (hx : ev e x = .bool t) (h : CodeW P n r (if t then c else d) Q e H) : CodeW P n r (.cond x c d) Q e H := by
  intro a w ha hw
  refine wpIn_cond (t := t) (by rw [ha.eval]; exact hx) ?_
  cases t
  · exact h a w ha hw
  · exact h a w ha hw
theorem codeW_pw {n : Nat} {r : Option Nat} {c : Code} {Q : Exit → Env → Mem → Prop} {e : Env} (hc : codeOk n c = true) (h : pw P n r c Q e H) : CodeW P n r c Q e H := pw_sound c hc Q e H h
/-- A region whose last operation defers a call. -/
theorem defer_region {n id : Nat} {pre : List Oper} {o : Oper} {f : Operand} {as : Array Operand} {ts : Array TypeId} {Q : Exit → Env → Mem → Prop} {e : Env} (hop : o.op = .defer ⟨.value f, as, ts⟩) (hg : o.guard = none) (hd : o.dst = none) (hp : pre.all (dstOk n) = true)
    (h : pwOps P (pre ++ [o]) pre e H fun e' H' => ∃ g first cap, ev e' f = .func (.func g) first cap ∧ Q .normal ⟨e'.get, ⟨.fn (.func g) cap, first ++ as.map (ev e')⟩ :: e'.ds⟩ H') : CodeW P n none (.region id (pre ++ [o]).toArray false) Q e H := by
  intro a w ha hw
  refine wpIn_region_list ?_
  rw [List.toList_toArray]
  refine pwOps_then (r := none) (ops := (pre ++ [o]).toArray) (n := n) ?_ pre (List.all_eq_true.1 hp) a w e H ha hw (by simpa using h)
  rintro a' w' e' H' ha' hw' ⟨g, first, cap, hf, hq⟩
  unfold wpListIn
  rw [if_pos (wanted_none hg)]
  refine ⟨fun _ _ => trivial, ?_⟩
  have hs : (o.semAt (GF none).round a'.eval).run P w' = .ok (.defer ⟨.fn (.func g) cap, first ++ as.map (ev e')⟩) w' := by
    rw [ha'.eval]
    have : o.semAt (GF none).round (ev e') = execOp (ev e') o := by simp [GF, Fence.wide, Oper.semAt]
    rw [this]
    simp [execOp, hop, resolve, hf, Deferred.ofValue]
  rw [hs, Oper.uponIn_defer, hd]
  exact ⟨⟨e'.get, ⟨.fn (.func g) cap, first ++ as.map (ev e')⟩ :: e'.ds⟩, H', ⟨by show _ :: a'.defers = _; rw [ha'.defers], ha'.size, ha'.get⟩, hw', hq⟩
theorem defer_reg {n id : Nat} {l : List Oper} {f : Operand} {as : Array Operand} {ts : Array TypeId} {U : TypeId} {p : String} {ed : Array Edge} {Q : Exit → Env → Mem → Prop} {e : Env} (hl : l.getLast? = some ⟨none, .defer ⟨.value f, as, ts⟩, U, p, ed, none⟩) (hp : l.dropLast.all (dstOk n) = true)
    (h : pwOps P l l.dropLast e H fun e' H' => ∃ g first cap, ev e' f = .func (.func g) first cap ∧ Q .normal ⟨e'.get, ⟨.fn (.func g) cap, first ++ as.map (ev e')⟩ :: e'.ds⟩ H') : CodeW P n none (.region id l.toArray false) Q e H := by
  have e1 : l = l.dropLast ++ [⟨none, .defer ⟨.value f, as, ts⟩, U, p, ed, none⟩] := by
    rw [List.getLast?_eq_some_iff] at hl
    obtain ⟨ys, rfl⟩ := hl
    simp
  generalize l.dropLast = pre at hp h e1
  subst e1
  exact defer_region rfl rfl rfl hp h
/-- The deferred calls, one after the other. -/
def leaveD (P : Program) : List Deferred → Mem → (Mem → Prop) → Prop
  | [], H, K => K H
  | ⟨.fn (.func g) cap, args⟩ :: ds, H, K => hasBody P g = true ∧ DefW P g (args ++ cap) H (fun H' => leaveD P ds H' K)
  | _, _, _ => False
def endL (P : Program) (rs : List ResultVar) (K : Value → Mem → Prop) : Exit → Env → Mem → Prop
  | .normal, e, H | .ret, e, H => leaveD P e.ds H fun H' => retK (retVals P H' e rs) fun v => K v H'
  | _, _, _ => False
theorem leaveD_sound {fn : Func} {tmps : Array Value} {e : Env} {K : Value → Mem → Prop} (ht : ∀ t, tmps.getD t undef = e t) : ∀ (ds : List Deferred) (w : World) (H : Mem), Fits w H → leaveD P ds H (fun H' => retK (retVals P H' e fn.results.toList) fun v => K v H') →
    LeavesIn Fence.wide 0 P fn tmps (fun x w' => ∃ v H', x = .returned v ∧ Fits w' H' ∧ K v H') ds .returning w
  | [], w, H, hw, h => by
    unfold leaveD retK at h
    split at h
    · rename_i vs hvs
      exact ⟨_, run_results' ht hw hvs, _, H, rfl, hw, h⟩
    · exact h.elim
  | d :: ds, w, H, hw, h => by
    unfold leaveD at h
    split at h
    · rename_i heq; cases heq
    · rename_i g cap args ds' heq
      cases heq
      obtain ⟨hb, hd⟩ := h
      refine ⟨by simp, fun h => by simp [Fence.wide] at h, .func g, cap, g, args ++ cap, rfl, ?_, fun _ _ => trivial, ?_⟩
      · simp only [invoke]; exact run_hasBody hb _ _
      · refine (hd w .returning hw).mono ?_
        rintro x u' w' ⟨rfl, v, H', rfl, hw', hk⟩
        exact leaveD_sound ht ds w' H' hw' hk
    · exact h.elim
/-- A function that defers calls. -/
theorem invW_of_defers {f : FuncId} {fn : Func} {c : Code} {args : Array Value} {K : Value → Mem → Prop} (hf : P.funcs[f]? = some fn) (hb : fn.body = some c)
    (hname : (fn.name == "runtime.NumGoroutine") = false) (hn : args.size ≤ fn.ntmps)
    (h : CodeW P fn.ntmps none c (endL P fn.results.toList K) (initE args.toList) H) : InvW P f args H K := by
  intro w hw
  refine ⟨.enter f args, w, H, ?_, hw, ?_⟩
  · have hname' : ¬ fn.name = "runtime.NumGoroutine" := by simpa using hname
    simp [callFunc, program, Sem.run, hf, hname', hb]
  · intro w hw
    refine callsIn_wide.1 (callsIn_of_wp_defers (F := Fence.wide) (n := 0) hf hb trivial ?_ rfl)
    have hag : Agrees fn.ntmps { tmps := args ++ Array.replicate (fn.ntmps - args.size) undef, defers := [] } (initE args.toList) := by
      refine ⟨rfl, by simp; omega, fun t => ?_⟩
      simp only [initE, Array.getD_eq_getD_getElem?, Array.getElem?_append, Array.getElem?_replicate, Array.getElem?_toList]
      by_cases ht : t < args.size
      · simp [ht]
      · rw [if_neg ht, Array.getElem?_eq_none (by omega)]
        split <;> rfl
    refine Go.wpIn_mono (h _ w hag hw) ?_
    rintro x a' w' ⟨e', H', ha', hw', hq⟩
    cases x with
    | normal => show LeavesIn _ _ _ _ _ _ a'.defers _ _; rw [ha'.defers]; exact leaveD_sound ha'.get _ w' H' hw' hq
    | ret => show LeavesIn _ _ _ _ _ _ a'.defers _ _; rw [ha'.defers]; exact leaveD_sound ha'.get _ w' H' hw' hq
    | _ => exact hq.elim
end
end Go.Proofs.YtgkolnknobgcmaaGreatV
end
section
namespace Go.Proofs.YtgkolnknobgcmaaGreatV
open Go

section
variable {P : Program} {ops : Array Oper} {md : Region.Mode} {C : World → Prop}

def wpAnyLQ (P : Program) (md : Region.Mode) (ops : Array Oper) (C : World → Prop) (n : Nat) (L : Array Bool → Act → Prop) : Nat → Array Bool → Act → Prop
  | 0, listed, a => L listed a
  | f + 1, listed, a =>
    Region.ready md ops listed ≠ [] ∧ ∀ i ∈ Region.ready md ops listed, i < n ∧ qOp P ops C i (wpAnyLQ P md ops C n L f (listed.setIfInBounds i true)) a

theorem wpAny_of_headQ {n g : Nat} {L : Array Bool → Act → Prop} {Q' : Exit → Act → World → Prop} (hL : ∀ listed a w, C w → L listed a → wpAny P md ops Q' g listed a w) :
    ∀ (f : Nat) (listed : Array Bool) (a : Act) (w : World), C w → wpAnyLQ P md ops C n L f listed a → wpAny P md ops Q' (f + g) listed a w
  | 0, listed, a, w, hw, h => by rw [Nat.zero_add]; exact hL _ _ _ hw h
  | f + 1, listed, a, w, hw, h => by
    rw [show f + 1 + g = (f + g) + 1 by omega]
    exact ⟨fun h0 => absurd h0 h.1, fun i hi => wpOp_of_qOp hw (fun a' w' hw' h' => wpAny_of_headQ hL f _ a' w' hw' h') (h.2 i hi).2⟩

theorem wpAnyLQ_first {n i : Nat} {oi : Oper} {v : Value} {L : Array Bool → Act → Prop} (hi : ops[i]? = some oi) (hsel : ∀ (j : Nat) (o : Oper) cs b, ops[j]? = some o → o.op ≠ .select cs b)
    (hs : Region.sinkB md ops n = true) (hc : Region.chainB md ops n = true) (hn : n < ops.size) (hin : i < n)
    (hdone : ∀ listed a, L listed a → ∀ j ∈ Region.ready md ops listed, n ≤ j) :
    ∀ (f : Nat) (listed : Array Bool) (a : Act), HeadInv md ops n listed →
      (∀ j oj, ops[j]? = some oj → j ≠ i → listed.getD j true = false → (∀ e ∈ oj.after, Region.binds md e = true → e.on ≠ i) → oi.apart ops oj = true) →
      i ∈ Region.ready md ops listed → YieldsIn P ops C oi v a →
      wpAnyLQ P md ops C n L f (listed.setIfInBounds i true) (a.put oi.dst v) → wpAnyLQ P md ops C n L (f + 1) listed a := by
  intro f
  induction f with
  | zero =>
    intro listed a inv _ hr hy H
    have hun := (mem_ready.1 hr).1
    refine ⟨fun h => (by rw [h] at hr; cases hr), fun j hj => ?_⟩
    have hjn : j < n := by
      rcases Nat.lt_or_ge j n with h | h
      · exact h
      · exact absurd hj (tail_waits hs hc hn inv _ i rfl hin hun j h)
    refine ⟨hjn, ?_⟩
    by_cases hji : j = i
    · subst hji; exact hy.qOp hi H
    · have := hdone _ _ H j (ready_mono hj hji)
      omega
  | succ f ih =>
    intro listed a inv hfree hr hy H
    have hun := (mem_ready.1 hr).1
    refine ⟨fun h => (by rw [h] at hr; cases hr), fun j hj => ?_⟩
    have hjn : j < n := by
      rcases Nat.lt_or_ge j n with h | h
      · exact h
      · exact absurd hj (tail_waits hs hc hn inv _ i rfl hin hun j h)
    refine ⟨hjn, ?_⟩
    by_cases hji : j = i
    · subst hji; exact hy.qOp hi H
    · have h1 := (H.2 j (ready_mono hj hji)).2
      obtain ⟨hjun, oj, hoj, hall⟩ := mem_ready.1 hj
      have hnot : ∀ e ∈ oj.after, Region.binds md e = true → e.on ≠ i := fun e he hb heq => by
        have h1 := hall e he hb
        rw [heq, getD_both hun] at h1
        cases h1
      have h2 := qOp_put hoj (hfree j oj hoj hji hjun hnot) (fun cs b => hsel i oi cs b hi) (fun cs b => hsel j oj cs b hoj) hy h1
      have hfree' : ∀ k ok, ops[k]? = some ok → k ≠ i → (listed.setIfInBounds j true).getD k true = false →
          (∀ e ∈ ok.after, Region.binds md e = true → e.on ≠ i) → oi.apart ops ok = true := fun k ok hk hki hun hno => by
        refine hfree k ok hk hki ?_ hno
        by_cases hjk : j = k
        · subst hjk; exact hjun
        · rw [getD_set_ne true hjk] at hun; exact hun
      refine qOp_mono (fun a' h3 => ih (listed.setIfInBounds j true) a' (inv.set hj hjn) hfree' (ready_mono hr (Ne.symm hji)) h3.1 ?_) h2
      rw [Array.setIfInBounds_comm _ _ hji]
      exact h3.2

theorem wpAnyLQ_lex {n g : Nat} {Lq : Act → Prop} (hsel : Region.noSelect ops = true) (hs : Region.sinkB md ops n = true) (hc : Region.chainB md ops n = true) (hn : n < ops.size) :
    ∀ (l : List Oper) (k : Nat) (listed : Array Bool) (a : Act), (∀ j, j < l.length → l[j]? = ops[k + j]?) → k + l.length = n → HeadInv md ops n listed →
    Region.lexHead md ops g l.length k listed = true → wpQuiet P ops C Lq l a →
    wpAnyLQ P md ops C n (fun listed' a' => Region.seqB md ops g n listed' = true ∧ Lq a') l.length listed a
  | [], k, listed, a, _, hk, _, hB, h => by
    have : k = n := by simpa using hk
    subst this
    exact ⟨by simpa [Region.lexHead] using hB, h⟩
  | o :: l, k, listed, a, hl, hk, inv, hB, h => by
    have h0 : ops[k]? = some o := by simpa using (hl 0 (by simp)).symm
    simp only [List.length_cons, Region.lexHead, Bool.and_eq_true] at hB
    obtain ⟨⟨hr, hf⟩, hB'⟩ := hB
    have hkn : k < n := by simp only [List.length_cons] at hk; omega
    have hr' : k ∈ Region.ready md ops listed := by simpa using hr
    have hst : qOp P ops C k (wpQuiet P ops C Lq l) a := by unfold qOp; simp only [h0]; exact h
    obtain ⟨v, hy, hK⟩ := yieldsIn_of_qOp h0 hst
    exact wpAnyLQ_first h0 (Region.noSelect_spec hsel) hs hc hn hkn (fun listed' a' hL => seqB_ready hL.1) l.length listed a inv (Region.free_spec h0 hf) hr' hy
      (wpAnyLQ_lex hsel hs hc hn l (k + 1) _ _ (fun j hj => by have := hl (j + 1) (by simp; omega); simpa [Nat.add_assoc, Nat.add_comm 1 j] using this) (by simp only [List.length_cons] at hk; omega) (inv.set hr' hkn) hB' hK)

theorem wp_region_quiet_tail {id : Nat} {Q : Exit → Act → World → Prop} {a : Act} {w : World} {l : List Oper} (n : Nat) (hm : P.follows .mixedOrders = true) (hB : Region.lexTailB .any l.toArray n = true) (hC : C { w with drawn := w.drawn + 1 })
    (h : wpQuiet P l.toArray C (fun a' => ∀ w', C w' → wpList P l.toArray Q (l.drop n) a' w') (l.take n) a) : (Code.region id l.toArray true).wp P Q a w := by
  simp only [Region.lexTailB, Bool.and_eq_true, decide_eq_true_eq] at hB
  obtain ⟨⟨⟨⟨hsel, hn⟩, hs⟩, hc⟩, hlex⟩ := hB
  have hn' : n < l.length := by simpa using hn
  have htl : (l.take n).length = n := by simp; omega
  have hdl : (l.drop n).length = l.toArray.size - n := by simp
  have inv0 : HeadInv .any l.toArray n (Array.replicate l.toArray.size false) :=
    ⟨by simp, fun j oj _ hl => (by rw [getD_replicate_false] at hl; cases hl), fun t _ ht => getD_in (by simpa using ht) (getD_replicate_false _ _)⟩
  have H := wpAnyLQ_lex (md := .any) (C := C) (g := l.toArray.size - n) hsel hs hc hn (l.take n) 0 _ a (fun j hj => by
    have hj' : j < n := by rw [htl] at hj; exact hj
    simp [hj']) (by simpa using htl) inv0 (by rw [htl]; exact hlex) h
  refine wp_region_any hm ?_
  have := wpAny_of_headQ (Q' := Q) (g := l.toArray.size - n) (fun listed a' w' hw' hL => by
    have := wpAny_of_seq (md := .any) (Q' := Q) (l.drop n) n listed a' w' (fun j => by simp [List.getElem?_drop]) (by rw [hdl]; exact hL.1) (hL.2 w' hw')
    rwa [hdl] at this) _ _ _ _ hC H
  rw [htl, show n + (l.toArray.size - n) = l.toArray.size by omega] at this
  exact this
end

section
variable {P : Program} {H : Mem}
theorem draw_qtail (k : Nat) {n id : Nat} {l : List Oper} {Q : Exit → Env → Mem → Prop} {e : Env} (hm : P.follows .mixedOrders = true) (hB : Region.lexTailB .any l.toArray k = true) (hd : l.all (fun o => dstOk n o && plainOp o) = true)
    (h : pwQ P l (l.take k) e H (fun e' => pwOps P l (l.drop k) e' H (Q .normal))) : CodeW P n none (.region id l.toArray true) Q e H := by
  intro a w ha hw
  refine (wpIn_wide (n := 0)).2 ?_
  refine wp_region_quiet_tail (C := fun w => Fits w H) k hm hB (hw.drewN _) ?_
  have hd' : ∀ o ∈ l, dstOk n o = true ∧ plainOp o = true := fun o ho => by have := List.all_eq_true.1 hd o ho; simpa using this
  refine pwQ_quiet (n := n) (H := H) (ops := l.toArray) (K := fun e' => pwOps P l (l.drop k) e' H (Q .normal)) ?_ (l.take k) (fun o ho => (hd' o (List.mem_of_mem_take ho)).1) a e ha (by simpa using h)
  intro a' e' ha' hq w' hw'
  exact pwOps_plain (n := n) (ops := l.toArray) (K := Q .normal) (fun a w e H ha hw hk => ⟨e, H, ha, hw, hk⟩) (l.drop k) (fun o ho => hd' o (List.mem_of_mem_drop ho)) a' _ e' H ha' hw' (by simpa using hq)
end
end Go.Proofs.YtgkolnknobgcmaaGreatV
end
section
namespace Go.Proofs.YtgkolnknobgcmaaGreatV
open Go

inductive Sched where
  | done
  | take (i : Nat) (s : Sched)
  | alt (i : Nat) (s t : Sched)
  | nil
def Mem.none : Mem := ⟨fun _ => .none, fun _ => .none, .none, fun _ => .none⟩
def Sched.ok (ops : Array Oper) : Sched → Option (List Nat) → Nat → Array Bool → Bool
  | .done, .none, _, L => (Region.ready .any ops L).isEmpty
  | .take i s, .none, f + 1, L => (Region.ready .any ops L).contains i && Region.free .any ops L i && s.ok ops .none f (L.setIfInBounds i true)
  | .alt i s t, .none, f + 1, L => decide (Region.ready .any ops L = i :: (Region.ready .any ops L).tail) && s.ok ops .none f (L.setIfInBounds i true) && t.ok ops (some (Region.ready .any ops L).tail) (f + 1) L
  | .alt i s t, some (j :: js), f + 1, L => i == j && s.ok ops .none f (L.setIfInBounds i true) && t.ok ops (some js) (f + 1) L
  | .nil, some [], _, _ => true
  | _, _, _, _ => false

section
variable {P : Program} {H : Mem}
/-- Operation i, which looks at slots alone. -/
def slotW (P : Program) (all : List Oper) (i : Nat) (e : Env) (K : Env → Prop) (_x : Bx K := ⟨⟩) : Prop :=
  match all[i]? with
  | none => False
  | some o => match o.guard with
    | none => optK (qV P e .none o.op) fun v => K (e.put o.dst v)
    | some (j, want) => GuardW (gval all e j) want (optK (qV P e .none o.op) fun v => K (e.put o.dst v)) (K (e.put o.dst undef))
def oneW (P : Program) (all : List Oper) (i : Nat) (e : Env) (H : Mem) (K : Env → Mem → Prop) (_x : Bx K := ⟨⟩) : Prop :=
  match all[i]? with
  | none => False
  | some o => match o.guard with
    | none => opW P e H o fun v H' => K (e.put o.dst v) H'
    | some (j, want) => GuardW (gval all e j) want (opW P e H o fun v H' => K (e.put o.dst v) H') (K (e.put o.dst undef) H)
def pwA (P : Program) (all : List Oper) : Sched → Env → Mem → (Env → Mem → Prop) → Prop
  | .done, e, H, K => K e H
  | .take i s, e, H, K => slotW P all i e fun e' => pwA P all s e' H K
  | .alt i s t, e, H, K => oneW P all i e H (fun e' H' => pwA P all s e' H' K) ∧ pwA P all t e H K
  | .nil, _, _, _ => True

theorem fits_none (w : World) : Fits w .none := ⟨fun _ _ h => (nomatch h), fun _ _ h => (nomatch h), fun _ h => (nomatch h), fun _ _ h => (nomatch h)⟩

theorem slot_yields {n : Nat} {l : List Oper} {i : Nat} {o : Oper} {a : Act} {e : Env} {K : Env → Prop} (hi : l[i]? = some o) (ha : Agrees n a e) (h : slotW P l i e K) : ∃ v, Yields P l.toArray o v a ∧ K (e.put o.dst v) := by
  unfold slotW at h
  rw [hi] at h
  simp only at h
  have step : ∀ {K' : Value → Prop}, optK (qV P e .none o.op) K' → ∃ v, (∀ w, (execOp a.eval o).run P w = .ok (.value v) w) ∧ K' v := by
    intro K' hq
    obtain ⟨v, hv, hk⟩ := optK_some hq
    exact ⟨v, fun w => by rw [agrees_eval ha]; exact run_qV hv (fits_none w), hk⟩
  split at h
  · rename_i hg
    obtain ⟨v, h1, h2⟩ := step h
    exact ⟨v, .inl ⟨wanted_none hg, h1⟩, h2⟩
  · rename_i j want hg
    have hy := yielded_gval ha l.toArray j
    unfold GuardW at h
    split at h
    · rename_i b hb
      rw [show gval l.toArray.toList e j = .bool b from hb] at hy
      simp only at hy
      by_cases hbw : b = want
      · subst hbw
        obtain ⟨v, h1, h2⟩ := step (h.1 (by simp))
        exact ⟨v, .inl ⟨by simp [Region.wanted, hg, hy], h1⟩, h2⟩
      · exact ⟨undef, .inr ⟨by simp [Region.wanted, hg, hy, hbw], rfl⟩, h.2 (by simp [hbw])⟩
    · rename_i hb
      have : yielded l.toArray a.tmps j = none := by
        rw [hy]; split
        · rename_i b hb'; exact absurd hb' (hb b)
        · rfl
      exact ⟨undef, .inr ⟨by simp [Region.wanted, hg, this], rfl⟩, h⟩

theorem one_wpOp {n : Nat} {l : List Oper} {i : Nat} {a : Act} {w : World} {e : Env} {K : Env → Mem → Prop} {Kw : Act → World → Prop} {Q : Exit → Act → World → Prop} (hd : ∀ o ∈ l, dstOk n o = true ∧ plainOp o = true)
    (ha : Agrees n a e) (hw : Fits w H) (h : oneW P l i e H K) (hK : ∀ a w e H, Agrees n a e → Fits w H → K e H → Kw a w) : wpOp P l.toArray Q i Kw a w := by
  unfold oneW at h
  unfold wpOp
  rw [List.getElem?_toArray]
  cases hi : l[i]? with
  | none => rw [hi] at h; exact h.elim
  | some o =>
    rw [hi] at h
    simp only at h ⊢
    have hdo : ∀ t, o.dst = some t → t < n := by
      intro t ht
      have := (hd o (List.mem_of_getElem? hi)).1
      simpa [dstOk, ht] using this
    have hp := (hd o (List.mem_of_getElem? hi)).2
    split at h
    · rename_i hg
      rw [if_pos (wanted_none hg)]
      exact .inl (op_wp_plain hp ha hw h fun v w' H' hf hk => hK _ _ _ _ (ha.put hdo v) hf hk)
    · rename_i j want hg
      have hy := yielded_gval ha l.toArray j
      unfold GuardW at h
      split at h
      · rename_i b hb
        rw [show gval l.toArray.toList e j = .bool b from hb] at hy
        simp only at hy
        by_cases hbw : b = want
        · subst hbw
          rw [if_pos (by simp [Region.wanted, hg, hy])]
          exact .inl (op_wp_plain hp ha hw (h.1 (by simp)) fun v w' H' hf hk => hK _ _ _ _ (ha.put hdo v) hf hk)
        · rw [if_neg (by simp [Region.wanted, hg, hy, hbw])]
          exact hK _ _ _ _ (ha.put hdo undef) hw (h.2 (by simp [hbw]))
      · rename_i hb
        have : yielded l.toArray a.tmps j = none := by
          rw [hy]; split
          · rename_i b hb'; exact absurd hb' (hb b)
          · rfl
        rw [if_neg (by simp [Region.wanted, hg, this])]
        exact hK _ _ _ _ (ha.put hdo undef) hw h

theorem sched_sound {n : Nat} {l : List Oper} {K : Env → Mem → Prop} {Q : Exit → Act → World → Prop} (hd : ∀ o ∈ l, dstOk n o = true ∧ plainOp o = true) (hs : Region.noSelect l.toArray = true)
    (hp : ∀ c a w, ¬ Q (.panic c) a w) (hK : ∀ a w e H, Agrees n a e → Fits w H → K e H → Q .normal a w) : ∀ (s : Sched),
    (∀ f L a w e H, s.ok l.toArray none f L = true → Agrees n a e → Fits w H → pwA P l s e H K → wpAny P .any l.toArray Q f L a w) ∧
    (∀ js f L a w e H, s.ok l.toArray (some js) (f + 1) L = true → Agrees n a e → Fits w H → pwA P l s e H K → ∀ i ∈ js, wpOp P l.toArray Q i (wpAny P .any l.toArray Q f (L.setIfInBounds i true)) a w)
  | .done => by
    refine ⟨fun f L a w e H hok ha hw h => ?_, fun js f L a w e H hok => by simp [Sched.ok] at hok⟩
    simp only [Sched.ok, List.isEmpty_iff] at hok
    exact wpAny_done hok (hK a w e H ha hw h) f
  | .take i s => by
    refine ⟨fun f L a w e H hok ha hw h => ?_, fun js f L a w e H hok => by simp [Sched.ok] at hok⟩
    cases f with
    | zero => simp [Sched.ok] at hok
    | succ f =>
      simp only [Sched.ok, Bool.and_eq_true] at hok
      obtain ⟨⟨h1, h2⟩, h3⟩ := hok
      obtain ⟨_, o, ho, _⟩ := mem_ready.1 (by simpa using h1)
      have ho' : l[i]? = some o := by simpa using ho
      have hdo : ∀ t, o.dst = some t → t < n := by
        intro t ht
        have := (hd o (List.mem_of_getElem? ho')).1
        simpa [dstOk, ht] using this
      obtain ⟨v, hy, hk⟩ := slot_yields ho' ha h
      exact wpAny_take ho hs h2 h1 (fun c a w hq => absurd hq (hp _ _ _)) hy ((sched_sound hd hs hp hK s).1 f _ _ w _ H h3 (ha.put hdo v) hw hk)
  | .alt i s t => by
    refine ⟨fun f L a w e H hok ha hw h => ?_, fun js f L a w e H hok ha hw h => ?_⟩
    · cases f with
      | zero => simp [Sched.ok] at hok
      | succ f =>
        simp only [Sched.ok, Bool.and_eq_true, decide_eq_true_eq] at hok
        obtain ⟨⟨h1, h2⟩, h3⟩ := hok
        refine wpAny_all h1 (by simp) fun j hj => ?_
        rcases List.mem_cons.1 hj with rfl | hj
        · exact one_wpOp hd ha hw h.1 fun a w e H ha hw hk => (sched_sound hd hs hp hK s).1 f _ _ w _ H h2 ha hw hk
        · exact (sched_sound hd hs hp hK t).2 _ f L a w e H h3 ha hw h.2 j hj
    · cases js with
      | nil => simp [Sched.ok] at hok
      | cons j js =>
        simp only [Sched.ok, Bool.and_eq_true, beq_iff_eq] at hok
        obtain ⟨⟨rfl, h2⟩, h3⟩ := hok
        intro k hk
        rcases List.mem_cons.1 hk with rfl | hk
        · exact one_wpOp hd ha hw h.1 fun a w e H ha hw hk => (sched_sound hd hs hp hK s).1 f _ _ w _ H h2 ha hw hk
        · exact (sched_sound hd hs hp hK t).2 _ f L a w e H h3 ha hw h.2 k hk
  | .nil => by
    refine ⟨fun f L a w e H hok => by simp [Sched.ok] at hok, fun js f L a w e H hok ha hw h => ?_⟩
    cases js with
    | nil => intro i hi; cases hi
    | cons j js => simp [Sched.ok] at hok

/-- The law for such a region. -/
theorem draw_sched (s : Sched) {n id : Nat} {l : List Oper} {Q : Exit → Env → Mem → Prop} {e : Env} (hm : P.follows .mixedOrders = true)
    (hok : (l.all (fun o => dstOk n o && plainOp o) && Region.noSelect l.toArray && s.ok l.toArray none l.length (Array.replicate l.length false)) = true)
    (h : pwA P l s e H (Q .normal)) : CodeW P n none (.region id l.toArray true) Q e H := by
  intro a w ha hw
  refine (wpIn_wide (n := 0)).2 ?_
  simp only [Bool.and_eq_true] at hok
  obtain ⟨⟨h1, h2⟩, h3⟩ := hok
  have hd : ∀ o ∈ l, dstOk n o = true ∧ plainOp o = true := fun o ho => by have := List.all_eq_true.1 h1 o ho; simpa using this
  refine Go.wp_mono (wp_region_any (Q := fun x a w => x = .normal ∧ liftQ n Q .normal a w) hm ?_) ?_
  · have := (sched_sound (P := P) (n := n) (l := l) (K := Q .normal) (Q := fun x a w => x = .normal ∧ liftQ n Q .normal a w) hd h2 (fun c a w hq => by cases hq.1) (fun a w e H ha hw hk => ⟨rfl, e, H, ha, hw, hk⟩) s).1 l.length _ a _ e H h3 ha (hw.drewN (w.drawn + 1)) h
    simpa using this
  · rintro x a' w' ⟨rfl, hq⟩; exact hq

/-! ### equations -/
theorem pwA_done {all : List Oper} {e : Env} {K : Env → Mem → Prop} : pwA P all .done e H K = K e H := rfl
theorem pwA_take {all : List Oper} {e : Env} {K : Env → Mem → Prop} {i : Nat} {s : Sched} : pwA P all (.take i s) e H K = slotW P all i e fun e' => pwA P all s e' H K := rfl
theorem pwA_alt {all : List Oper} {e : Env} {K : Env → Mem → Prop} {i : Nat} {s t : Sched} : pwA P all (.alt i s t) e H K = (oneW P all i e H (fun e' H' => pwA P all s e' H' K) ∧ pwA P all t e H K) := rfl
theorem pwA_nil {all : List Oper} {e : Env} {K : Env → Mem → Prop} : pwA P all .nil e H K = True := rfl
theorem slotW_eq {all : List Oper} {i : Nat} {e : Env} {K : Env → Prop} {x : Bx K} {d : Option Tmp} {op : Op} {T : TypeId} {p : String} {a : Array Edge} (h : all[i]? = some ⟨d, op, T, p, a, none⟩) : slotW P all i e K x = optK (qV P e .none op) fun v => K (e.put d v) := by simp only [slotW, h]
theorem slotW_g {all : List Oper} {i : Nat} {e : Env} {K : Env → Prop} {x : Bx K} {d : Option Tmp} {op : Op} {T : TypeId} {p : String} {a : Array Edge} {j : Nat} {want : Bool} (h : all[i]? = some ⟨d, op, T, p, a, some (j, want)⟩) :
    slotW P all i e K x = GuardW (gval all e j) want (optK (qV P e .none op) fun v => K (e.put d v)) (K (e.put d undef)) := by simp only [slotW, h]
def slotK (P : Program) (all : List Oper) (o : Option Oper) (e : Env) (K : Env → Prop) (_x : Bx K := ⟨⟩) : Prop := match o with
  | none => False
  | some o => match o.guard with
    | none => optK (qV P e .none o.op) fun v => K (e.put o.dst v)
    | some (j, want) => GuardW (gval all e j) want (optK (qV P e .none o.op) fun v => K (e.put o.dst v)) (K (e.put o.dst undef))
def oneK (P : Program) (all : List Oper) (o : Option Oper) (e : Env) (H : Mem) (K : Env → Mem → Prop) (_x : Bx K := ⟨⟩) : Prop := match o with
  | none => False
  | some o => match o.guard with
    | none => opW P e H o fun v H' => K (e.put o.dst v) H'
    | some (j, want) => GuardW (gval all e j) want (opW P e H o fun v H' => K (e.put o.dst v) H') (K (e.put o.dst undef) H)
theorem slotW_K {all : List Oper} {i : Nat} {e : Env} {K : Env → Prop} {x : Bx K} : slotW P all i e K x = slotK P all all[i]? e K := rfl
theorem oneW_K {all : List Oper} {i : Nat} {e : Env} {K : Env → Mem → Prop} {x : Bx K} : oneW P all i e H K x = oneK P all all[i]? e H K := rfl
theorem slotK_n {all : List Oper} {e : Env} {K : Env → Prop} {x : Bx K} {d : Option Tmp} {op : Op} {T : TypeId} {p : String} {a : Array Edge} : slotK P all (some ⟨d, op, T, p, a, none⟩) e K x = optK (qV P e .none op) fun v => K (e.put d v) := rfl
theorem slotK_g {all : List Oper} {e : Env} {K : Env → Prop} {x : Bx K} {d : Option Tmp} {op : Op} {T : TypeId} {p : String} {a : Array Edge} {j : Nat} {want : Bool} : slotK P all (some ⟨d, op, T, p, a, some (j, want)⟩) e K x = GuardW (gval all e j) want (optK (qV P e .none op) fun v => K (e.put d v)) (K (e.put d undef)) := rfl
theorem oneK_n {all : List Oper} {e : Env} {K : Env → Mem → Prop} {x : Bx K} {d : Option Tmp} {op : Op} {T : TypeId} {p : String} {a : Array Edge} : oneK P all (some ⟨d, op, T, p, a, none⟩) e H K x = opW P e H ⟨d, op, T, p, a, none⟩ fun v H' => K (e.put d v) H' := rfl
theorem oneK_g {all : List Oper} {e : Env} {K : Env → Mem → Prop} {x : Bx K} {d : Option Tmp} {op : Op} {T : TypeId} {p : String} {a : Array Edge} {j : Nat} {want : Bool} : oneK P all (some ⟨d, op, T, p, a, some (j, want)⟩) e H K x = GuardW (gval all e j) want (opW P e H ⟨d, op, T, p, a, some (j, want)⟩ fun v H' => K (e.put d v) H') (K (e.put d undef) H) := rfl
theorem qV_move {e : Env} {x : Operand} : qV P e H (.move x) = some (ev e x) := rfl
theorem qV_assign {e : Env} {x : Operand} : qV P e H (.assign x) = some (ev e x) := rfl
theorem qV_bin {e : Env} {o : BinOp} {T W : TypeId} {x y : Operand} : qV P e H (.binOp o T x y W) = bin P o T (ev e x) (ev e y) := rfl
theorem qV_un {e : Env} {o : UnOp} {T : TypeId} {x : Operand} : qV P e H (.unOp o T x) = un o (ev e x) := rfl
theorem qV_conv {e : Env} {s d : TypeId} {x : Operand} : qV P e H (.convert s d x) = conv (P.underlying s) (P.underlying d) (ev e x) := rfl
theorem qV_idx {e : Env} {T : TypeId} {x i : Operand} : qV P e H (.index T x i) = idx P T (ev e x) (ev e i) := rfl
theorem qV_idxA {e : Env} {T : TypeId} {x i : Operand} : qV P e H (.indexAddr T x i) = idxA P T (ev e x) (ev e i) := rfl
theorem qV_slc {e : Env} {T : TypeId} {x : Operand} {lo hi : Option Operand} : qV P e H (.slice T x lo hi none) = slc P T (ev e x) (lo.map (ev e)) (hi.map (ev e)) := rfl
theorem qV_fadr {e : Env} {T : TypeId} {x : Operand} {i : Nat} : qV P e H (.fieldAddr T x i) = fadr P T (ev e x) i := rfl
theorem qV_field {e : Env} {T : TypeId} {x : Operand} {i : Nat} : qV P e H (.field T x i) = fval P T (ev e x) i := rfl
theorem qV_extr {e : Env} {x : Operand} {i : Nat} : qV P e H (.extract x i) = extr (ev e x) i := rfl
theorem qV_nilc {e : Env} {x : Operand} : qV P e H (.nilCheck x) = nilc (ev e x) := rfl
theorem qV_mkf {e : Env} {fn : Fn} {first cap : Array Operand} : qV P e H (.makeFunc fn first cap) = some (.func fn (first.map (ev e)) (cap.map (ev e))) := rfl
theorem qV_build {e : Env} {T : TypeId} {parts : Array (Nat × Operand)} : qV P e H (.build T parts) = bld P T (parts.toList.map fun (i, x) => (i, ev e x)) := rfl
theorem qV_len {e : Env} {x : Operand} {T : TypeId} : qV P e H (.call ⟨.builtin .len, #[x], #[T]⟩) = lenV P T (ev e x) := rfl
theorem qV_min {e : Env} {as : Array Operand} {ts : Array TypeId} : qV P e H (.call ⟨.builtin .min, as, ts⟩) = minmax false (as.toList.map (ev e)) := rfl
theorem qV_max {e : Env} {as : Array Operand} {ts : Array TypeId} : qV P e H (.call ⟨.builtin .max, as, ts⟩) = minmax true (as.toList.map (ev e)) := rfl
theorem qV_sd {e : Env} {x : Operand} {ts : Array TypeId} : qV P e H (.call ⟨.builtin .unsafeSliceData, #[x], ts⟩) = sdata (ev e x) := rfl
theorem sdata_nil {n c : Nat} : sdata (.slice none n c) = some (.pointer none) := rfl
theorem sdata_some {a : Addr} {n c : Nat} : sdata (.slice (some a) n (c + 1)) = some (.pointer (some a)) := rfl
def pickK (v a b : Value) : Option Value := match v with | .bool t => some (if t then a else b) | _ => none
theorem qV_pick {e : Env} {c a b : Operand} : qV P e H (.pick c a b) = pickK (ev e c) (ev e a) (ev e b) := rfl
theorem pickK_b {t : Bool} {a b : Value} : pickK (.bool t) a b = some (if t then a else b) := rfl
def loadQ (H : Mem) (t : Option (Bool × Nat)) (a : Value) : Option Value := match t, a with
  | some (b, n), .pointer (some ad) => (H.read ad n).bind fun vs => if b then some (.agg vs.toArray) else match vs with | [v] => some v | _ => none
  | _, _ => none
theorem qV_load {e : Env} {T : TypeId} {a : Operand} : qV P e H (.load T a) = loadQ H (ty P T) (ev e a) := rfl
def loadQ1 (o : Option (List Value)) (b : Bool) : Option Value := match o with
  | none => none
  | some vs => if b then some (.agg vs.toArray) else match vs with | [v] => some v | _ => none
theorem loadQ_p {b : Bool} {n : Nat} {ad : Addr} : loadQ H (some (b, n)) (.pointer (some ad)) = loadQ1 (H.read ad n) b := by
  simp only [loadQ]; generalize H.read ad n = o; cases o <;> rfl
theorem loadQ_1 {v : Value} : loadQ1 (some [v]) false = some v := rfl
theorem loadQ_n {vs : List Value} : loadQ1 (some vs) true = some (.agg vs.toArray) := rfl
theorem pwQ_nil {all : List Oper} {e : Env} {K : Env → Prop} : pwQ P all [] e H K = K e := rfl
theorem pwQ_n {all r : List Oper} {e : Env} {K : Env → Prop} {d : Option Tmp} {op : Op} {T : TypeId} {p : String} {a : Array Edge} : pwQ P all (⟨d, op, T, p, a, none⟩ :: r) e H K = pwQ.qOpW P e H ⟨d, op, T, p, a, none⟩ fun v => pwQ P all r (e.put d v) H K := rfl
theorem pwQ_g {all r : List Oper} {e : Env} {K : Env → Prop} {d : Option Tmp} {op : Op} {T : TypeId} {p : String} {a : Array Edge} {j : Nat} {want : Bool} : pwQ P all (⟨d, op, T, p, a, some (j, want)⟩ :: r) e H K = GuardW (gval all e j) want (pwQ.qOpW P e H ⟨d, op, T, p, a, some (j, want)⟩ fun v => pwQ P all r (e.put d v) H K) (pwQ P all r (e.put d undef) H K) := rfl
theorem dV0 : type_of% @pwA_done ∧ type_of% @pwA_take ∧ type_of% @pwA_alt ∧ type_of% @pwA_nil ∧ type_of% @slotW_K ∧ type_of% @oneW_K ∧ type_of% @slotK_n ∧ type_of% @slotK_g ∧ type_of% @oneK_n ∧ type_of% @oneK_g ∧ type_of% @pwQ_nil ∧ type_of% @pwQ_n ∧ type_of% @pwQ_g :=
  ⟨@pwA_done, @pwA_take, @pwA_alt, @pwA_nil, @slotW_K, @oneW_K, @slotK_n, @slotK_g, @oneK_n, @oneK_g, @pwQ_nil, @pwQ_n, @pwQ_g⟩
theorem dV1 : type_of% @qV_move ∧ type_of% @qV_assign ∧ type_of% @qV_bin ∧ type_of% @qV_un ∧ type_of% @qV_conv ∧ type_of% @qV_idx ∧ type_of% @qV_idxA ∧ type_of% @qV_slc ∧ type_of% @qV_fadr ∧ type_of% @qV_field ∧ type_of% @qV_extr ∧ type_of% @qV_nilc ∧ type_of% @qV_mkf ∧ type_of% @qV_build ∧ type_of% @qV_len ∧ type_of% @qV_min ∧ type_of% @qV_max ∧ type_of% @qV_sd ∧ type_of% @sdata_nil ∧ type_of% @sdata_some ∧ type_of% @qV_pick ∧ type_of% @pickK_b ∧ type_of% @qV_load ∧ type_of% @loadQ_p ∧ type_of% @loadQ_1 ∧ type_of% @loadQ_n :=
  ⟨@qV_move, @qV_assign, @qV_bin, @qV_un, @qV_conv, @qV_idx, @qV_idxA, @qV_slc, @qV_fadr, @qV_field, @qV_extr, @qV_nilc, @qV_mkf, @qV_build, @qV_len, @qV_min, @qV_max, @qV_sd, @sdata_nil, @sdata_some, @qV_pick, @pickK_b, @qV_load, @loadQ_p, @loadQ_1, @loadQ_n⟩
end
end Go.Proofs.YtgkolnknobgcmaaGreatV
end
section
namespace Go.Proofs.YtgkolnknobgcmaaGreatV
open Go
set_option linter.unusedVariables false

inductive Plan where
  | done
  | take (i : Nat) (s : Plan)
  | read (i : Nat) (s : Plan)
  | alt (i : Nat) (s t : Plan)
  | grow (i : Nat) (s t : Plan)
  | nil
/-- May operation j come ahead of one of the readers R? -/
def needC (ops : Array Oper) (R : List Nat) (j : Nat) : Bool := R.any fun i => !(i == j) && !Region.waitsFor .any ops j i
def Plan.ok (ops : Array Oper) (R : List Nat) : Plan → Bool → Option (List Nat) → Nat → Array Bool → Bool
  | .done, _, .none, _, L => (Region.ready .any ops L).isEmpty
  | .take i s, c, .none, f + 1, L => (Region.ready .any ops L).contains i && Region.free .any ops L i && !R.contains i && s.ok ops R c .none f (L.setIfInBounds i true)
  | .read i s, c, .none, f + 1, L => (Region.ready .any ops L).contains i && Region.free .any ops L i && c && R.contains i && s.ok ops R c .none f (L.setIfInBounds i true)
  | .alt i s t, c, .none, f + 1, L => decide (Region.ready .any ops L = i :: (Region.ready .any ops L).tail) && !needC ops R i && s.ok ops R false .none f (L.setIfInBounds i true) && t.ok ops R c (some (Region.ready .any ops L).tail) (f + 1) L
  | .grow i s t, c, .none, f + 1, L => decide (Region.ready .any ops L = i :: (Region.ready .any ops L).tail) && s.ok ops R c .none f (L.setIfInBounds i true) && t.ok ops R c (some (Region.ready .any ops L).tail) (f + 1) L
  | .alt i s t, c, some (j :: js), f + 1, L => i == j && !needC ops R i && s.ok ops R false .none f (L.setIfInBounds i true) && t.ok ops R c (some js) (f + 1) L
  | .grow i s t, c, some (j :: js), f + 1, L => i == j && s.ok ops R c .none f (L.setIfInBounds i true) && t.ok ops R c (some js) (f + 1) L
  | .nil, _, some [], _, _ => true
  | _, _, _, _, _ => false

section
variable {P : Program} {ops : Array Oper} {C : World → Prop} {R : List Nat} {Q : Exit → Act → World → Prop}

theorem wpOp_putY {j : Nat} {oi oj : Oper} {v : Value} {Y : Act → Prop} (hj : ops[j]? = some oj) (hap : oi.apart ops oj = true) (hsj : ∀ cs b, oj.op ≠ .select cs b)
    (keep : ∀ (a : Act), Y a → ∀ u, Y (a.put oj.dst u)) (keepD : ∀ (a : Act) d, Y a → Y { a with defers := d :: a.defers })
    (hQ : ∀ c a w, ¬ Q (.panic c) a w) {K : Act → World → Prop} {a : Act} {w : World}
    (hy : Y a) (h : wpOp P ops Q j K (a.put oi.dst v) w) :
    wpOp P ops Q j (fun a' w' => Y a' ∧ K (a'.put oi.dst v) w') a w := by
  obtain ⟨h1, h2, h3⟩ := Oper.apart_spec hap
  unfold wpOp at *
  simp only [hj] at *
  rw [wanted_put oj a oi.dst v h1] at h
  split
  · rename_i hw
    simp only [hw, if_true] at h
    rcases h with h | ⟨hasks, hlets⟩
    case inr => exact .inr ⟨by unfold Oper.asks at *; rw [execOp_put oj hsj a oi.dst v h1] at hasks; exact hasks, hlets⟩
    refine .inl ?_
    unfold Oper.wp at *
    rw [execOp_put oj hsj a oi.dst v h1] at h
    generalize (execOp a.eval oj).run P w = r at *
    cases r with
    | ok n w' =>
      cases n <;> simp only [Oper.upon] at h ⊢
      case value u => exact ⟨keep a hy u, by rw [← Act.put_comm a v u h2]; exact h⟩
      case skip => exact ⟨keep a hy _, by rw [← Act.put_comm a v undef h2]; exact h⟩
      case defer d =>
        refine ⟨keep _ (keepD a d hy) _, ?_⟩
        rw [← Act.put_comm _ v undef h2, ← Act.put_defers]
        exact h
      case enter f args =>
        refine Calls.mono h fun e w'' he => ?_
        cases e with
        | returned u => exact ⟨keep a hy u, by rw [← Act.put_comm a v u h2]; exact he⟩
        | panicked c => exact absurd he (hQ _ _ _)
        | outgrown => exact he
      case row row args => exact Rows.mono h fun u w'' he => ⟨keep a hy u, by rw [← Act.put_comm a v u h2]; exact he⟩
    | halt x w' =>
      cases x <;> simp only [Oper.upon] at h ⊢
      case panic u => exact absurd h (hQ _ _ _)
  · rename_i hw
    simp only [hw] at h
    exact ⟨keep a hy _, by rw [← Act.put_comm a v undef h2]; exact h⟩

def wpAnyC (P : Program) (ops : Array Oper) (Q : Exit → Act → World → Prop) (C : World → Prop) (R : List Nat) : Nat → Array Bool → Act → World → Prop
  | 0, listed, a, w => Region.ready .any ops listed = [] ∧ Q .normal a w
  | f + 1, listed, a, w =>
    (Region.ready .any ops listed = [] → Q .normal a w) ∧
    ∀ j ∈ Region.ready .any ops listed, wpOp P ops Q j (fun a' w' => (needC ops R j = true → C w → C w') ∧ wpAnyC P ops Q C R f (listed.setIfInBounds j true) a' w') a w
theorem wpAny_of_C : ∀ (f : Nat) (listed : Array Bool) (a : Act) (w : World), wpAnyC P ops Q C R f listed a w → wpAny P .any ops Q f listed a w
  | 0, _, _, _, h => h
  | f + 1, listed, a, w, h => ⟨h.1, fun j hj => wpOp_mono (fun a' w' h' => wpAny_of_C f _ a' w' h'.2) (h.2 j hj)⟩

/-- In a, in every world of the class (if i is a reader), o yields v. -/
def YieldsD (P : Program) (ops : Array Oper) (C : World → Prop) (r : Bool) (o : Oper) (v : Value) (a : Act) : Prop :=
  (Region.wanted o (yielded ops a.tmps) = true ∧ ∀ w, (r = true → C w) → (execOp a.eval o).run P w = .ok (.value v) w) ∨
  (Region.wanted o (yielded ops a.tmps) = false ∧ v = undef)
theorem YieldsD.wpOp {r : Bool} {i : Nat} {o : Oper} {v : Value} {a : Act} (hi : ops[i]? = some o) (hy : YieldsD P ops C r o v a) {K : Act → World → Prop} {w : World} (hC : r = true → C w) (h : K (a.put o.dst v) w) : wpOp P ops Q i K a w := by
  unfold Go.wpOp
  simp only [hi]
  rcases hy with ⟨hw, hv⟩ | ⟨hw, rfl⟩
  · simp only [hw, if_true, Oper.wp, hv w hC, Oper.upon]; exact .inl h
  · simp only [hw, Bool.false_eq_true, if_false]; exact h
theorem YieldsD.of_same {r : Bool} {o : Oper} {v : Value} {a a' : Act} (hy : YieldsD P ops C r o v a) (he : execOp a'.eval o = execOp a.eval o)
    (hw : Region.wanted o (yielded ops a'.tmps) = Region.wanted o (yielded ops a.tmps)) : YieldsD P ops C r o v a' := by
  unfold YieldsD at *
  rw [he, hw]
  exact hy

theorem wpAnyC_first {i : Nat} {oi : Oper} {v : Value} (hi : ops[i]? = some oi) (hsel : ∀ (j : Nat) (o : Oper) cs b, ops[j]? = some o → o.op ≠ .select cs b)
    (hQ : ∀ c a w, ¬ Q (.panic c) a w) :
    ∀ (fuel : Nat) (listed : Array Bool) (a : Act) (w : World),
      (∀ j oj, ops[j]? = some oj → j ≠ i → listed.getD j true = false → (∀ e ∈ oj.after, Region.binds .any e = true → e.on ≠ i) → oi.apart ops oj = true) →
      i ∈ Region.ready .any ops listed → YieldsD P ops C (R.contains i) oi v a → (R.contains i = true → C w) →
      wpAnyC P ops Q C R fuel (listed.setIfInBounds i true) (a.put oi.dst v) w → wpAnyC P ops Q C R (fuel + 1) listed a w := by
  intro fuel
  induction fuel with
  | zero =>
    intro listed a w _ hr hy hC H
    refine ⟨fun h => (by rw [h] at hr; cases hr), fun j hj => ?_⟩
    by_cases hji : j = i
    · subst hji; exact hy.wpOp hi hC ⟨fun _ h => h, H⟩
    · have := ready_mono hj hji
      rw [H.1] at this
      cases this
  | succ fuel ih =>
    intro listed a w hfree hr hy hC H
    refine ⟨fun h => (by rw [h] at hr; cases hr), fun j hj => ?_⟩
    by_cases hji : j = i
    · subst hji; exact hy.wpOp hi hC ⟨fun _ h => h, H⟩
    · have h1 := H.2 j (ready_mono hj hji)
      obtain ⟨hjun, oj, hoj, hall⟩ := mem_ready.1 hj
      have hnot : ∀ e ∈ oj.after, Region.binds .any e = true → e.on ≠ i := fun e he hb heq => by
        have h1 := hall e he hb
        have h0 := (mem_ready.1 hr).1
        rw [heq] at h1
        rcases Nat.lt_or_ge i listed.size with h' | h'
        · simp [h'] at h0 h1; rw [h0] at h1; cases h1
        · simp [Array.getElem?_eq_none h'] at h1
      have hap := hfree j oj hoj hji hjun hnot
      have hneed : R.contains i = true → needC ops R j = true := fun hri => by
        unfold needC
        refine List.any_eq_true.2 ⟨i, by simpa using hri, ?_⟩
        have : Region.waitsFor .any ops j i = false := by
          cases hw : Region.waitsFor .any ops j i with
          | false => rfl
          | true =>
            obtain ⟨o', ho', e, he, hb, hon⟩ := Region.waitsFor_spec hw
            have : o' = oj := Option.some.inj (ho'.symm.trans hoj)
            subst this
            exact absurd hon (hnot e he hb)
        simp [this, Ne.symm hji]
      have h2 := wpOp_putY (Y := YieldsD P ops C (R.contains i) oi v) hoj hap (fun cs b => hsel j oj cs b hoj)
        (fun a hy u => hy.of_same (execOp_put oi (fun cs b => hsel i oi cs b hi) a oj.dst u (Oper.apart_spec hap).2.2) (wanted_put oi a oj.dst u (Oper.apart_spec hap).2.2)) (fun a d hy => hy.of_same rfl rfl) hQ hy h1
      have hfree' : ∀ k ok, ops[k]? = some ok → k ≠ i → (listed.setIfInBounds j true).getD k true = false →
          (∀ e ∈ ok.after, Region.binds .any e = true → e.on ≠ i) → oi.apart ops ok = true := fun k ok hk hki hun hno => by
        refine hfree k ok hk hki ?_ hno
        by_cases hjk : j = k
        · subst hjk; exact hjun
        · rw [getD_set_ne true hjk] at hun; exact hun
      refine wpOp_mono (fun a' w' h3 => ⟨h3.2.1, ?_⟩) h2
      refine ih (listed.setIfInBounds j true) a' w' hfree' (ready_mono hr (Ne.symm hji)) h3.1 (fun hri => h3.2.1 (hneed hri) (hC hri)) ?_
      rw [Array.setIfInBounds_comm _ _ hji]
      exact h3.2.2
end

section
variable {P : Program} {H : Mem}
/-- Operation i, in what was known at the region's beginning. -/
def readW (P : Program) (all : List Oper) (i : Nat) (e : Env) (H : Mem) (K : Env → Prop) (_x : Bx K := ⟨⟩) : Prop :=
  match all[i]? with
  | none => False
  | some o => match o.guard with
    | none => optK (qV P e H o.op) fun v => K (e.put o.dst v)
    | some (j, want) => GuardW (gval all e j) want (optK (qV P e H o.op) fun v => K (e.put o.dst v)) (K (e.put o.dst undef))
def pwB (P : Program) (all : List Oper) (H0 : Mem) : Plan → Env → Mem → (Env → Mem → Prop) → Prop
  | .done, e, H, K => K e H
  | .take i s, e, H, K => readW P all i e .none fun e' => pwB P all H0 s e' H K
  | .read i s, e, H, K => readW P all i e H0 fun e' => pwB P all H0 s e' H K
  | .alt i s t, e, H, K => oneW P all i e H (fun e' H' => pwB P all H0 s e' H' K) ∧ pwB P all H0 t e H K
  | .grow i s t, e, H, K => oneW P all i e H (fun e' H' => H0.le H' ∧ pwB P all H0 s e' H' K) ∧ pwB P all H0 t e H K
  | .nil, _, _, _ => True

theorem read_yields {n : Nat} {l : List Oper} {i : Nat} {o : Oper} {a : Act} {e : Env} {K : Env → Prop} {C : World → Prop} {r : Bool} (hC : ∀ w, (r = true → C w) → Fits w H) (hi : l[i]? = some o) (ha : Agrees n a e) (h : readW P l i e H K) :
    ∃ v, YieldsD P l.toArray C r o v a ∧ K (e.put o.dst v) := by
  unfold readW at h
  rw [hi] at h
  simp only at h
  have step : ∀ {K' : Value → Prop}, optK (qV P e H o.op) K' → ∃ v, (∀ w, (r = true → C w) → (execOp a.eval o).run P w = .ok (.value v) w) ∧ K' v := by
    intro K' hq
    obtain ⟨v, hv, hk⟩ := optK_some hq
    exact ⟨v, fun w hw => by rw [agrees_eval ha]; exact run_qV hv (hC w hw), hk⟩
  split at h
  · rename_i hg
    obtain ⟨v, h1, h2⟩ := step h
    exact ⟨v, .inl ⟨wanted_none hg, h1⟩, h2⟩
  · rename_i j want hg
    have hy := yielded_gval ha l.toArray j
    unfold GuardW at h
    split at h
    · rename_i b hb
      rw [show gval l.toArray.toList e j = .bool b from hb] at hy
      simp only at hy
      by_cases hbw : b = want
      · subst hbw
        obtain ⟨v, h1, h2⟩ := step (h.1 (by simp))
        exact ⟨v, .inl ⟨by simp [Region.wanted, hg, hy], h1⟩, h2⟩
      · exact ⟨undef, .inr ⟨by simp [Region.wanted, hg, hy, hbw], rfl⟩, h.2 (by simp [hbw])⟩
    · rename_i hb
      have : yielded l.toArray a.tmps j = none := by
        rw [hy]; split
        · rename_i b hb'; exact absurd hb' (hb b)
        · rfl
      exact ⟨undef, .inr ⟨by simp [Region.wanted, hg, this], rfl⟩, h⟩

theorem plan_sound {n : Nat} {l : List Oper} {R : List Nat} {H0 : Mem} {K : Env → Mem → Prop} {Q : Exit → Act → World → Prop} (hd : ∀ o ∈ l, dstOk n o = true ∧ plainOp o = true) (hs : Region.noSelect l.toArray = true)
    (hp : ∀ c a w, ¬ Q (.panic c) a w) (hK : ∀ a w e H, Agrees n a e → Fits w H → K e H → Q .normal a w) : ∀ (s : Plan),
    (∀ c f L a w e H, s.ok l.toArray R c none f L = true → (c = true → Fits w H0) → Agrees n a e → Fits w H → pwB P l H0 s e H K → wpAnyC P l.toArray Q (fun w => Fits w H0) R f L a w) ∧
    (∀ c js f L a w e H, s.ok l.toArray R c (some js) (f + 1) L = true → (c = true → Fits w H0) → Agrees n a e → Fits w H → pwB P l H0 s e H K →
      ∀ i ∈ js, wpOp P l.toArray Q i (fun a' w' => (needC l.toArray R i = true → Fits w H0 → Fits w' H0) ∧ wpAnyC P l.toArray Q (fun w => Fits w H0) R f (L.setIfInBounds i true) a' w') a w)
  | .done => by
    refine ⟨fun c f L a w e H hok hc ha hw h => ?_, fun c js f L a w e H hok => by simp [Plan.ok] at hok⟩
    simp only [Plan.ok, List.isEmpty_iff] at hok
    cases f with
    | zero => exact ⟨hok, hK a w e H ha hw h⟩
    | succ f => exact ⟨fun _ => hK a w e H ha hw h, by rw [hok]; intro j hj; cases hj⟩
  | .take i s => by
    refine ⟨fun c f L a w e H hok hc ha hw h => ?_, fun c js f L a w e H hok => by simp [Plan.ok] at hok⟩
    cases f with
    | zero => simp [Plan.ok] at hok
    | succ f =>
      simp only [Plan.ok, Bool.and_eq_true, Bool.not_eq_true'] at hok
      obtain ⟨⟨⟨h1, h2⟩, h4⟩, h3⟩ := hok
      obtain ⟨_, o, ho, _⟩ := mem_ready.1 (by simpa using h1)
      have ho' : l[i]? = some o := by simpa using ho
      have hdo : ∀ t, o.dst = some t → t < n := by
        intro t ht
        have := (hd o (List.mem_of_getElem? ho')).1
        simpa [dstOk, ht] using this
      obtain ⟨v, hy, hk⟩ := read_yields (C := fun w => Fits w H0) (r := R.contains i) (fun w _ => fits_none w) ho' ha h
      exact wpAnyC_first ho (Region.noSelect_spec hs) hp f L a w (Region.free_spec ho h2) (by simpa using h1) hy (fun h => by rw [h4] at h; cases h)
        ((plan_sound hd hs hp hK s).1 c f _ _ w _ H h3 hc (ha.put hdo v) hw hk)
  | .read i s => by
    refine ⟨fun c f L a w e H hok hc ha hw h => ?_, fun c js f L a w e H hok => by simp [Plan.ok] at hok⟩
    cases f with
    | zero => simp [Plan.ok] at hok
    | succ f =>
      simp only [Plan.ok, Bool.and_eq_true] at hok
      obtain ⟨⟨⟨⟨h1, h2⟩, h4⟩, hR⟩, h3⟩ := hok
      obtain ⟨_, o, ho, _⟩ := mem_ready.1 (by simpa using h1)
      have ho' : l[i]? = some o := by simpa using ho
      have hdo : ∀ t, o.dst = some t → t < n := by
        intro t ht
        have := (hd o (List.mem_of_getElem? ho')).1
        simpa [dstOk, ht] using this
      · obtain ⟨v, hy, hk⟩ := read_yields (C := fun w => Fits w H0) (r := R.contains i) (fun w h => h hR) ho' ha h
        exact wpAnyC_first ho (Region.noSelect_spec hs) hp f L a w (Region.free_spec ho h2) (by simpa using h1) hy (fun _ => hc h4)
          ((plan_sound hd hs hp hK s).1 c f _ _ w _ H h3 hc (ha.put hdo v) hw hk)
  | .alt i s t => by
    refine ⟨fun c f L a w e H hok hc ha hw h => ?_, fun c js f L a w e H hok hc ha hw h => ?_⟩
    · cases f with
      | zero => simp [Plan.ok] at hok
      | succ f =>
        simp only [Plan.ok, Bool.and_eq_true, decide_eq_true_eq, Bool.not_eq_true'] at hok
        obtain ⟨⟨⟨h1, hn⟩, h2⟩, h3⟩ := hok
        refine ⟨fun h0 => (by rw [h1] at h0; cases h0), fun j hj => ?_⟩
        rw [h1] at hj
        rcases List.mem_cons.1 hj with rfl | hj
        · exact one_wpOp hd ha hw h.1 fun a' w' e H ha hw hk => ⟨fun hh => by (rw [hn] at hh; cases hh), (plan_sound hd hs hp hK s).1 false f _ _ w' _ H h2 (fun h => by cases h) ha hw hk⟩
        · exact (plan_sound hd hs hp hK t).2 c _ f L a w e H h3 hc ha hw h.2 j hj
    · cases js with
      | nil => simp [Plan.ok] at hok
      | cons j js =>
        simp only [Plan.ok, Bool.and_eq_true, beq_iff_eq, Bool.not_eq_true'] at hok
        obtain ⟨⟨⟨rfl, hn⟩, h2⟩, h3⟩ := hok
        intro k hk
        rcases List.mem_cons.1 hk with rfl | hk
        · exact one_wpOp hd ha hw h.1 fun a' w' e H ha hw hk => ⟨fun hh => by (rw [hn] at hh; cases hh), (plan_sound hd hs hp hK s).1 false f _ _ w' _ H h2 (fun h => by cases h) ha hw hk⟩
        · exact (plan_sound hd hs hp hK t).2 c _ f L a w e H h3 hc ha hw h.2 k hk
  | .grow i s t => by
    refine ⟨fun c f L a w e H hok hc ha hw h => ?_, fun c js f L a w e H hok hc ha hw h => ?_⟩
    · cases f with
      | zero => simp [Plan.ok] at hok
      | succ f =>
        simp only [Plan.ok, Bool.and_eq_true, decide_eq_true_eq] at hok
        obtain ⟨⟨h1, h2⟩, h3⟩ := hok
        refine ⟨fun h0 => (by rw [h1] at h0; cases h0), fun j hj => ?_⟩
        rw [h1] at hj
        rcases List.mem_cons.1 hj with rfl | hj
        · exact one_wpOp hd ha hw h.1 fun a' w' e H ha hw hk => ⟨fun _ _ => hw.mono hk.1, (plan_sound hd hs hp hK s).1 c f _ _ w' _ H h2 (fun _ => hw.mono hk.1) ha hw hk.2⟩
        · exact (plan_sound hd hs hp hK t).2 c _ f L a w e H h3 hc ha hw h.2 j hj
    · cases js with
      | nil => simp [Plan.ok] at hok
      | cons j js =>
        simp only [Plan.ok, Bool.and_eq_true, beq_iff_eq] at hok
        obtain ⟨⟨rfl, h2⟩, h3⟩ := hok
        intro k hk
        rcases List.mem_cons.1 hk with rfl | hk
        · exact one_wpOp hd ha hw h.1 fun a' w' e H ha hw hk => ⟨fun _ _ => hw.mono hk.1, (plan_sound hd hs hp hK s).1 c f _ _ w' _ H h2 (fun _ => hw.mono hk.1) ha hw hk.2⟩
        · exact (plan_sound hd hs hp hK t).2 c _ f L a w e H h3 hc ha hw h.2 k hk
  | .nil => by
    refine ⟨fun c f L a w e H hok => by simp [Plan.ok] at hok, fun c js f L a w e H hok hc ha hw h => ?_⟩
    cases js with
    | nil => intro i hi; cases hi
    | cons j js => simp [Plan.ok] at hok

/-- The law for such a region: the readers are R. -/
theorem draw_plan (s : Plan) (R : List Nat) {n id : Nat} {l : List Oper} {Q : Exit → Env → Mem → Prop} {e : Env} (hm : P.follows .mixedOrders = true)
    (hok : (l.all (fun o => dstOk n o && plainOp o) && Region.noSelect l.toArray && s.ok l.toArray R true none l.length (Array.replicate l.length false)) = true)
    (h : pwB P l H s e H (Q .normal)) : CodeW P n none (.region id l.toArray true) Q e H := by
  intro a w ha hw
  refine (wpIn_wide (n := 0)).2 ?_
  simp only [Bool.and_eq_true] at hok
  obtain ⟨⟨h1, h2⟩, h3⟩ := hok
  have hd : ∀ o ∈ l, dstOk n o = true ∧ plainOp o = true := fun o ho => by have := List.all_eq_true.1 h1 o ho; simpa using this
  refine Go.wp_mono (wp_region_any (Q := fun x a w => x = .normal ∧ liftQ n Q .normal a w) hm ?_) ?_
  · have := (plan_sound (P := P) (n := n) (l := l) (R := R) (H0 := H) (K := Q .normal) (Q := fun x a w => x = .normal ∧ liftQ n Q .normal a w) hd h2 (fun c a w hq => by cases hq.1) (fun a w e H ha hw hk => ⟨rfl, e, H, ha, hw, hk⟩) s).1 true l.length _ a _ e H h3 (fun _ => hw.drewN (w.drawn + 1)) ha (hw.drewN (w.drawn + 1)) h
    simpa using wpAny_of_C _ _ _ _ this
  · rintro x a' w' ⟨rfl, hq⟩; exact hq

theorem draw_planB (s : Plan) (R : List Nat) {H0 : Mem} (hle : H0.le H) {n id : Nat} {l : List Oper} {Q : Exit → Env → Mem → Prop} {e : Env} (hm : P.follows .mixedOrders = true)
    (hok : (l.all (fun o => dstOk n o && plainOp o) && Region.noSelect l.toArray && s.ok l.toArray R true none l.length (Array.replicate l.length false)) = true)
    (h : pwB P l H0 s e H (Q .normal)) : CodeW P n none (.region id l.toArray true) Q e H := by
  intro a w ha hw
  refine (wpIn_wide (n := 0)).2 ?_
  simp only [Bool.and_eq_true] at hok
  obtain ⟨⟨h1, h2⟩, h3⟩ := hok
  have hd : ∀ o ∈ l, dstOk n o = true ∧ plainOp o = true := fun o ho => by have := List.all_eq_true.1 h1 o ho; simpa using this
  refine Go.wp_mono (wp_region_any (Q := fun x a w => x = .normal ∧ liftQ n Q .normal a w) hm ?_) ?_
  · have := (plan_sound (P := P) (n := n) (l := l) (R := R) (H0 := H0) (K := Q .normal) (Q := fun x a w => x = .normal ∧ liftQ n Q .normal a w) hd h2 (fun c a w hq => by cases hq.1) (fun a w e H ha hw hk => ⟨rfl, e, H, ha, hw, hk⟩) s).1 true l.length _ a _ e H h3 (fun _ => (hw.drewN (w.drawn + 1)).mono hle) ha (hw.drewN (w.drawn + 1)) h
    simpa using wpAny_of_C _ _ _ _ this
  · rintro x a' w' ⟨rfl, hq⟩; exact hq
def readK2 (P : Program) (all : List Oper) (o : Option Oper) (e : Env) (H : Mem) (K : Env → Prop) (_x : Bx K := ⟨⟩) : Prop := match o with
  | none => False
  | some o => match o.guard with
    | none => optK (qV P e H o.op) fun v => K (e.put o.dst v)
    | some (j, want) => GuardW (gval all e j) want (optK (qV P e H o.op) fun v => K (e.put o.dst v)) (K (e.put o.dst undef))
theorem pwB_done {all : List Oper} {H0 : Mem} {e : Env} {K : Env → Mem → Prop} : pwB P all H0 .done e H K = K e H := rfl
theorem pwB_take {all : List Oper} {H0 : Mem} {e : Env} {K : Env → Mem → Prop} {i : Nat} {s : Plan} : pwB P all H0 (.take i s) e H K = readW P all i e .none fun e' => pwB P all H0 s e' H K := rfl
theorem pwB_read {all : List Oper} {H0 : Mem} {e : Env} {K : Env → Mem → Prop} {i : Nat} {s : Plan} : pwB P all H0 (.read i s) e H K = readW P all i e H0 fun e' => pwB P all H0 s e' H K := rfl
theorem pwB_alt {all : List Oper} {H0 : Mem} {e : Env} {K : Env → Mem → Prop} {i : Nat} {s t : Plan} : pwB P all H0 (.alt i s t) e H K = (oneW P all i e H (fun e' H' => pwB P all H0 s e' H' K) ∧ pwB P all H0 t e H K) := rfl
theorem pwB_grow {all : List Oper} {H0 : Mem} {e : Env} {K : Env → Mem → Prop} {i : Nat} {s t : Plan} : pwB P all H0 (.grow i s t) e H K = (oneW P all i e H (fun e' H' => H0.le H' ∧ pwB P all H0 s e' H' K) ∧ pwB P all H0 t e H K) := rfl
theorem pwB_nil {all : List Oper} {H0 : Mem} {e : Env} {K : Env → Mem → Prop} : pwB P all H0 .nil e H K = True := rfl
theorem readW_K {all : List Oper} {i : Nat} {e : Env} {K : Env → Prop} {x : Bx K} : readW P all i e H K x = readK2 P all all[i]? e H K := rfl
theorem readK2_n {all : List Oper} {e : Env} {K : Env → Prop} {x : Bx K} {d : Option Tmp} {op : Op} {T : TypeId} {p : String} {a : Array Edge} : readK2 P all (some ⟨d, op, T, p, a, none⟩) e H K x = optK (qV P e H op) fun v => K (e.put d v) := rfl
theorem readK2_g {all : List Oper} {e : Env} {K : Env → Prop} {x : Bx K} {d : Option Tmp} {op : Op} {T : TypeId} {p : String} {a : Array Edge} {j : Nat} {want : Bool} : readK2 P all (some ⟨d, op, T, p, a, some (j, want)⟩) e H K x = GuardW (gval all e j) want (optK (qV P e H op) fun v => K (e.put d v)) (K (e.put d undef)) := rfl
theorem dV2 : type_of% @pwB_done ∧ type_of% @pwB_take ∧ type_of% @pwB_read ∧ type_of% @pwB_alt ∧ type_of% @pwB_grow ∧ type_of% @pwB_nil ∧ type_of% @readW_K ∧ type_of% @readK2_n ∧ type_of% @readK2_g :=
  ⟨@pwB_done, @pwB_take, @pwB_read, @pwB_alt, @pwB_grow, @pwB_nil, @readW_K, @readK2_n, @readK2_g⟩
end
end Go.Proofs.YtgkolnknobgcmaaGreatV
end
section
namespace Go.Proofs.YtgkolnknobgcmaaGreatV
open Go
structure LeBut (b : Nat) (H H' : Mem) : Prop where
  c : ∀ x B, x ≠ b → H x = some B → ∃ B', H' x = some B' ∧ B.le B'
  o : ∀ x y, H.o x = some y → H'.o x = some y
  k : ∀ u, H.k = some u → H'.k = some u
  p : ∀ b x, H.p b = some x → H'.p b = some x
theorem LeBut.of_le {b : Nat} {H H' : Mem} (h : H.le H') : LeBut b H H' := ⟨fun x B _ hB => h.1 x B hB, h.2, h.3, h.4⟩
theorem LeBut.pl {b c : Nat} {H H' : Mem} (h : LeBut b H H') (hp : H.pl c) : H'.pl c := let ⟨x, hx⟩ := hp; ⟨x, h.4 c x hx⟩
theorem LeBut.refl {b : Nat} {H : Mem} : LeBut b H H := .of_le H.le_refl
theorem LeBut.trans {b : Nat} {H H' H'' : Mem} (h : LeBut b H H') (k : LeBut b H' H'') : LeBut b H H'' :=
  ⟨fun x B hx hB => let ⟨_, h1, h2⟩ := h.1 x B hx hB; let ⟨C, h3, h4⟩ := k.1 x _ hx h1; ⟨C, h3, Blk.le_trans h2 h4⟩, fun x y hy => k.2 x y (h.2 x y hy), fun u hu => k.3 u (h.3 u hu), fun b x hb => k.4 b x (h.4 b x hb)⟩
theorem LeBut.upd {b : Nat} {H H' : Mem} (h : LeBut b H H') (B : Blk) : LeBut b H (H'.upd b B) :=
  h.trans ⟨fun x C hx hC => ⟨C, by simp [Mem.upd, hx, hC], C.le_refl⟩, fun _ _ h => h, fun _ h => h, fun _ _ h => h⟩
theorem LeBut.le {b : Nat} {H0 H H' : Mem} (k : LeBut b H H') (h : H0.le H) (hb : H0 b = none) : H0.le H' :=
  ⟨fun x B hB => by
    have hx : x ≠ b := by rintro rfl; rw [hb] at hB; cases hB
    obtain ⟨C, h1, h2⟩ := h.1 x B hB
    obtain ⟨D, h3, h4⟩ := k.1 x C hx h1
    exact ⟨D, h3, Blk.le_trans h2 h4⟩, fun x y hy => k.2 x y (h.2 x y hy), fun u hu => k.3 u (h.3 u hu), fun b x hb => k.4 b x (h.4 b x hb)⟩
theorem LeBut.read {b : Nat} {H H' : Mem} (k : LeBut b H H') {a : Addr} {n : Nat} {vs : List Value} (ha : a.block ≠ b) (hr : H.read a n = some vs) : H'.read a n = some vs := by
  obtain ⟨x, o, B, rfl, hB, hle, rfl⟩ := read_parts hr
  obtain ⟨B', hb', h1, h2, h3⟩ := k.1 x B ha hB
  obtain ⟨r, hr'⟩ := h1
  simp only [Mem.read, hb', Option.bind_some, Blk.read]
  rw [← hr', if_pos (by simp; omega)]
  rw [List.drop_append_of_le_length (by omega), List.take_append_of_le_length (by simp; omega)]
theorem ne_of_some {H : Mem} {x b : Nat} {B : Blk} (hx : H x = .none) (hb : H b = some B) : x ≠ b := by rintro rfl; rw [hb] at hx; cases hx
theorem ne_of_read {H : Mem} {x y o n : Nat} {vs : List Value} (hx : H x = .none) (hr : H.read ⟨y, o, .none⟩ n = some vs) : x ≠ y := by
  rintro rfl
  simp [Mem.read, hx] at hr
theorem write_cell {H : Mem} {b o r : Nat} {cs : List Value} {v : Value} (hb : H b = some ⟨true, r, cs⟩) (ho : o < cs.length) (hr : o < r) : H.write ⟨b, o, .none⟩ [v] = some (H.upd b ⟨true, r, cs.set o v⟩) := by
  simp only [Mem.write, hb, Option.bind_some, Blk.write, List.length_singleton]
  rw [if_pos ⟨by trivial, by omega, by omega⟩, Option.map_some]
  congr 3
  unfold splice
  rw [List.set_eq_take_append_cons_drop, if_pos ho]; simp
/-- All but one block. -/
def Mem.del (H : Mem) (b : Nat) : Mem := ⟨fun c => if c = b then .none else H c, H.o, H.k, H.p⟩
theorem del_get {H : Mem} {b : Nat} : (H.del b) b = none := if_pos rfl
theorem del_upd {H : Mem} {b : Nat} {B : Blk} (h : H b = some B) : (H.del b).upd b B = H := by
  obtain ⟨c, o, k, p⟩ := H
  simp only [Mem.upd, Mem.del, Mem.mk.injEq, and_true]
  funext x
  split
  · rename_i e; subst e; exact h.symm
  · rfl
theorem del_le {H : Mem} {b : Nat} : (H.del b).le H := ⟨fun x B hB => by
  simp only [Mem.del] at hB
  split at hB
  · cases hB
  · exact ⟨B, hB, B.le_refl⟩, fun _ _ h => h, fun _ h => h, fun _ _ h => h⟩
theorem del_but {H H' : Mem} {b : Nat} (h : (H.del b).le H') : LeBut b H H' := ⟨fun x B hx hB => h.1 x B (by simp [Mem.del, hx, hB]), h.2, h.3, h.4⟩
end Go.Proofs.YtgkolnknobgcmaaGreatV
end
section
namespace Go.Proofs.YtgkolnknobgcmaaGreatV
open Go
section
variable {P : Program} {H : Mem}
theorem Mem.le_mark {H H' : Mem} (h : H.le H') {b : Nat} (hb : H'.p b = Option.none) (x : TypeId × Nat) : H.le (H'.mark b x) := ⟨h.1, h.2, h.3, fun c y hc => by
  have := h.4 c y hc
  have hne : c ≠ b := by rintro rfl; rw [hb] at this; cases this
  simp [Mem.mark, hne, this]⟩
theorem mark_get {b c : Nat} {x : TypeId × Nat} : (H.mark b x) c = H c := rfl
theorem mark_p {b : Nat} {x : TypeId × Nat} : (H.mark b x).p b = some x := by simp [Mem.mark]
theorem mark_pl {b : Nat} {x : TypeId × Nat} : (H.mark b x).pl b := ⟨x, mark_p⟩
theorem mark_read {b : Nat} {x : TypeId × Nat} {a : Addr} {n : Nat} : (H.mark b x).read a n = H.read a n := rfl
theorem Fits.freshP {w : World} (hw : Fits w H) : H.p w.heap.size = Option.none := by
  cases h : H.p w.heap.size with
  | none => rfl
  | some x => obtain ⟨c, hc, _⟩ := hw.4 _ x h; simp at hc
theorem fits_mark {w : World} (hw : Fits w H) {b : Nat} {x : TypeId × Nat} (hp : Plain w b x) : Fits w (H.mark b x) :=
  ⟨hw.1, hw.2, hw.3, fun c y hc => by
    simp only [Mem.mark] at hc
    split at hc
    · rename_i e; subst e; cases hc; exact hp
    · exact hw.4 c y hc⟩
theorem semW_box_mark {e : Env} {T U : TypeId} {x : Operand} {d : Option Tmp} {p : String} {ed : Array Edge} {g : Option (Nat × Bool)} {K : Value → Mem → Prop}
    (h : ∀ n, H n = none → H.p n = none → K (.pointer (some ⟨n, 0, none⟩)) ((H.upd n ⟨true, (ev e x).cells.size, (ev e x).cells.toList⟩).mark n (T, (ev e x).cells.size))) : SemW P (execOp (ev e) ⟨d, .box T x, U, p, ed, g⟩) H K := by
  intro w hw
  refine ⟨.value (.pointer (some ⟨w.heap.size, 0, none⟩)), w.alloc (.cells (ev e x).cells T), _, by simp [execOp, Instr.box, newVar, newRow, newObj, Sem.run], fits_mark (hw.alloc _ _) ⟨_, World.alloc_heap_new w _, rfl⟩, h _ hw.fresh hw.freshP⟩
theorem sem_wp {r : Option Nat} {n : Nat} {a : Act} {w : World} {e : Env} {o : Oper} {K : Value → Mem → Prop} (ha : Agrees n a e) (hw : Fits w H) (h : SemW P (execOp (ev e) o) H K)
    {next : Act → World → Prop} {Q : Exit → Act → World → Prop} (hnd : ∀ c, o.op ≠ .defer c) (hn : ∀ v w' H', Fits w' H' → K v H' → next (a.put o.dst v) w') : o.wpIn (GF r) 0 P a w next Q := by
  refine ⟨fun f _ => GF_fn r f, ?_⟩
  obtain ⟨nx, w', H', hr, hf, hk⟩ := h w hw
  have hsem : (o.semAt (GF r).round a.eval) = execOp (ev e) o := by
    rw [ha.eval]
    exact Oper.semAt_eq _ _ _ fun c hc => hnd c hc
  rw [hsem, hr]
  cases nx <;> simp only [NextW] at hk
  case value => exact hn _ _ _ hf hk
  case skip => exact hn _ _ _ hf hk
  case enter => exact ⟨fun h => by simp [GF_depth] at h, (calls_in (hk w' hf)).mono fun x w'' ⟨v, H'', hx, hf', hk'⟩ => by subst hx; exact hn _ _ _ hf' hk'⟩
/-- A region whose operation k is a new variable, to be told apart from others. -/
theorem mark_region (k : Nat) {n id : Nat} {l : List Oper} {T U : TypeId} {x : Operand} {d : Option Tmp} {p : String} {ed : Array Edge} {r : Option Nat} {Q : Exit → Env → Mem → Prop} {e : Env} (hl : l[k]? = some ⟨d, .box T x, U, p, ed, none⟩) (hd : l.all (dstOk n) = true)
    (h : pwOps P l (l.take k) e H fun e' H' => ∀ m, H' m = none → H'.p m = none → pwOps P l (l.drop (k + 1)) (e'.put d (.pointer (some ⟨m, 0, none⟩))) ((H'.upd m ⟨true, (ev e' x).cells.size, (ev e' x).cells.toList⟩).mark m (T, (ev e' x).cells.size)) (Q .normal)) : CodeW P n r (.region id l.toArray false) Q e H := by
  intro a w ha hw
  refine wpIn_region_list ?_
  rw [List.toList_toArray]
  have hs : l = l.take k ++ (⟨d, .box T x, U, p, ed, none⟩ :: l.drop (k + 1)) := by
    have hlt := (List.getElem?_eq_some_iff.1 hl).1
    have hge := (List.getElem?_eq_some_iff.1 hl).2
    rw [← hge, ← List.drop_eq_getElem_cons hlt, List.take_append_drop]
  have hall := List.all_eq_true.1 hd
  have hin : ∀ o ∈ l.drop (k + 1), dstOk n o = true := fun o ho => hall o (List.mem_of_mem_drop ho)
  have hbox : dstOk n ⟨d, .box T x, U, p, ed, none⟩ = true := hall _ (List.mem_of_getElem? hl)
  have key := pwOps_then (P := P) (r := r) (n := n) (ops := l.toArray) (Q := liftQ n Q) (rest := ⟨d, .box T x, U, p, ed, none⟩ :: l.drop (k + 1)) (K := fun e' H' => ∀ m, H' m = none → H'.p m = none → pwOps P l (l.drop (k + 1)) (e'.put d (.pointer (some ⟨m, 0, none⟩))) ((H'.upd m ⟨true, (ev e' x).cells.size, (ev e' x).cells.toList⟩).mark m (T, (ev e' x).cells.size)) (Q .normal)) ?_ (l.take k) (fun o ho => hall o (List.mem_of_mem_take ho)) a w e H ha hw (by simpa using h)
  · rw [← hs] at key; exact key
  · intro a' w' e' H' ha' hw' hk
    unfold wpListIn
    rw [if_pos (wanted_none rfl)]
    refine sem_wp (K := fun v H2 => ∃ m, H' m = none ∧ H'.p m = none ∧ v = .pointer (some ⟨m, 0, none⟩) ∧ H2 = (H'.upd m ⟨true, (ev e' x).cells.size, (ev e' x).cells.toList⟩).mark m (T, (ev e' x).cells.size)) ha' hw' (semW_box_mark fun m hm hp => ⟨m, hm, hp, rfl, rfl⟩) (by simp) ?_
    rintro v w2 H2 hf2 ⟨m, hm, hmp, rfl, rfl⟩
    exact pwOps_sound (n := n) (ops := l.toArray) (K := Q .normal) (fun a w e H ha hw hk => ⟨e, H, ha, hw, hk⟩) (l.drop (k + 1)) hin _ _ _ _ (ha'.put (fun t ht => by have ht' : d = some t := ht; subst ht'; simpa [dstOk] using hbox) _) hf2 (by simpa using hk m hm hmp)

theorem bin_pp {o : BinOp} {T : TypeId} {a : Option Addr} {b : Addr} : bin P o T (.pointer a) (.pointer (some b)) = none := by cases a <;> rfl
/-- Pointers to different blocks that were never frozen. -/
theorem semW_eqP {e : Env} {T U V0 te : TypeId} {x y : Operand} {d : Option Tmp} {p : String} {ed : Array Edge} {g : Option (Nat × Bool)} {K : Value → Mem → Prop} {a b : Addr} {bb : Bool} {m : Nat}
    (hx : ev e x = .pointer (some a)) (hy : ev e y = .pointer (some b)) (hu : P.underlying T = some (.pointer te)) (ht : ty P te = some (bb, m + 1))
    (h : (a = b ∧ K (.bool true) H) ∨ (a ≠ b ∧ H.pl a.block ∧ H.pl b.block ∧ K (.bool false) H)) :
    SemW P (execOp (ev e) ⟨d, .binOp .eql T x y U, V0, p, ed, g⟩) H K := by
  obtain ⟨_, _, hs, _⟩ := ty_parts ht
  obtain ⟨j, hte, hj⟩ : ∃ j, P.info? te = some j ∧ j.size = m + 1 := by
    unfold tsz at hs
    cases hi : P.info? te with
    | none => simp [hi] at hs
    | some j => exact ⟨j, rfl, by simpa [hi] using hs⟩
  have hsz : j.size ≠ 0 := by omega
  intro w hw
  rcases h with ⟨rfl, hK⟩ | ⟨hne, ha, hb, hK⟩
  · refine ⟨.value (.bool true), w, H, ?_, hw, hK⟩
    have := run_eql_ptr_same (P := P) w a hu hte
    simp [execOp, hx, hy, run_eqGuard (P := P) (w := w) .eql T x y (a := .pointer (some a)) (b := .pointer (some a)) (by simp) (by simp), this]
  · refine ⟨.value (.bool false), w, H, ?_, hw, hK⟩
    obtain ⟨xa, ha⟩ := ha
    obtain ⟨xb, hb⟩ := hb
    obtain ⟨ca, h1, _⟩ := hw.4 _ _ ha
    obtain ⟨cb, h2, _⟩ := hw.4 _ _ hb
    have := run_eql_ptr_other (P := P) w hu hte hsz hne h1 h2
    simp [execOp, hx, hy, run_eqGuard (P := P) (w := w) .eql T x y (a := .pointer (some a)) (b := .pointer (some b)) (by simp) (by simp), this]
end
end Go.Proofs.YtgkolnknobgcmaaGreatV
end
