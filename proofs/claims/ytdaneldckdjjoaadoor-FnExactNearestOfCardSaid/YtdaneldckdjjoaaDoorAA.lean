-- The session's own: what a piece of Go code does, told over objects and frames (a walk's logic). Lean checks it.
import Derived.Below
import Derived.Lib.TrailingZeros
import Derived.Orders
import Derived.Tactics
import Derived.Laws.OwnMore
import Derived.Deep.MidRow
import Derived.Laws.Cover3
import Derived.Laws.Small
import Derived.Test.YtdaneldckdjjoaaDoorWWords
import Derived.Test.YtdaneldckdjjoaaDoorWMore
import Derived.Test.YtdaneldckdjjoaaDoorWLast
set_option linter.unusedVariables false
set_option linter.unusedSimpArgs false
namespace Go.Proofs.YtdaneldckdjjoaaDoorA
open Go Go.RowKit
open Go.Proofs.YtdaneldckdjjoaaDoorW.PrintWords (rd bt shl shr)
open Go.Proofs.YtdaneldckdjjoaaDoorW.PrintLast (wpAnyLast wpAnyLast_any wpAnyLast_take wpAnyLast_all wpAnyLast_done wp_region_last Region.closedB Region.lastB)


/-- A value as the walk knows it: what is numbered are the rows and variables that the walk may write. -/
inductive AV where
  | any
  | lit (v : Value)
  | row (size n : Nat) (nn : Bool) (cells : List AV)
  | rptr (cells : List AV)
  | own (id n : Nat)
  | optr (id n off : Nat)
  | ptr (id off : Nat)
  | agg (cells : List AV)
  | tup (cells : List AV)
  | fn (f : FuncId) (caps : List AV)

/-- A cell of a row that owns rows: a value, or a row that belongs to it. -/
inductive DV where
  | v (x : AV)
  | r (e : TypeId) (size n : Nat) (cells : List AV)

/-- What a number stands for: a row of a slice, a variable in memory, a row with the rows that its cells own, or nothing more. -/
inductive AO where
  | dp (e : TypeId) (size n : Nat) (nn : Bool) (cells : List DV)
  | sl (e : TypeId) (size n : Nat) (nn : Bool) (cells : List AV)
  | bx (e : TypeId) (cells : List AV)
  | nil (e : TypeId) (size : Nat)
  | gone

def AO.len : AO → Nat
  | .sl _ _ n _ _ => n
  | .dp _ _ n _ _ => n
  | _ => 0

def AO.kind : AO → Nat
  | .sl .. => 0
  | .dp .. => 0
  | .nil .. => 0
  | .bx .. => 1
  | .gone => 2

def blk : Value → Option Nat
  | .slice (some a) _ _ => some a.block
  | .pointer (some a) => some a.block
  | _ => none

def DV.isR : DV → Bool
  | .r .. => true
  | _ => false
def AO.rAt : AO → Nat → Bool
  | .dp _ _ _ _ cells, i => match cells[i]? with
    | some d => d.isR
    | none => false
  | _, _ => false
/-- What lies in a row's cell. -/
def innerAt (w : World) : Value → Nat → Option Value
  | .slice (some a) _ _, i => w.cell? (a.add i)
  | _, _ => none
/-- The blocks of an object: its own, and those of the rows that its cells own. -/
def foot (w : World) (c : Value) (o : AO) (b : Nat) : Prop := blk c = some b ∨ ∃ i u, o.rAt i = true ∧ innerAt w c i = some u ∧ blk u = some b

section
variable (R : Nat → Prop) (A : Nat → Value) (H : List AO) (w : World)
mutual
def VR : AV → Value → Prop
  | .any, _ => True
  | .lit v, c => c = v
  | .row size n nn cells, c =>
      (c = .slice none 0 0 ∧ n = 0 ∧ cells = [] ∧ nn = false) ∨
      ∃ a cap vs, c = .slice (some a) n cap ∧ (0 < n → R a.block ∧ a.spot = none) ∧ n ≤ cap ∧ vs.length = n * size ∧ VRs cells vs ∧ ∀ j u, vs[j]? = some u → w.cell? (a.add j) = some u
  | .rptr cells, c => ∃ a vs, c = .pointer (some a) ∧ R a.block ∧ a.spot = none ∧ VRs cells vs ∧ ∀ j u, vs[j]? = some u → w.cell? (a.add j) = some u
  | .own id n, c => ∃ o, H[id]? = some o ∧ (∃ a l cap, c = .slice a l cap) ∧ (o = .gone ∨ (o.kind = 0 ∧ n ≤ o.len ∧ (n = o.len → c = A id)))
  | .optr id n off, c => ∃ o g, H[id]? = some o ∧ c = .pointer (some ⟨g, off, none⟩) ∧ (o = .gone ∨ (o.kind = 0 ∧ n ≤ o.len ∧ (n = o.len → ∃ l cap, A id = .slice (some ⟨g, 0, none⟩) l cap)))
  | .ptr id off, c => ∃ o g, H[id]? = some o ∧ c = .pointer (some ⟨g, off, none⟩) ∧ (o = .gone ∨ (o.kind = 1 ∧ A id = .pointer (some ⟨g, 0, none⟩)))
  | .agg cells, c => ∃ vs, VRs cells vs ∧ c = .agg vs.toArray
  | .tup cells, c => ∃ vs, VRs cells vs ∧ c = .tuple vs.toArray
  | .fn f caps, c => ∃ vs, VRs caps vs ∧ c = .func (.func f) #[] vs.toArray
def VRs : List AV → List Value → Prop
  | [], [] => True
  | x :: xs, v :: vs => VR x v ∧ VRs xs vs
  | _, _ => False
end

def DR : DV → Value → Prop
  | .v x, u => VR R A H w x u
  | .r e size n cells, u => ∃ us, w.ownsRow 0 e size u n us ∧ VRs R A H w cells us
def DRs : List DV → List Value → Prop
  | [], [] => True
  | x :: xs, v :: vs => DR R A H w x v ∧ DRs xs vs
  | _, _ => False
/-- The rows that the cells own lie apart from each other and from the row itself. -/
def Apart (c : Value) (cells : List DV) (vs : List Value) : Prop :=
  (∀ (i j : Nat) x y u v b, cells[i]? = some x → cells[j]? = some y → x.isR = true → y.isR = true → vs[i]? = some u → vs[j]? = some v → blk u = some b → blk v = some b → i = j) ∧
  (∀ (i : Nat) x u b, cells[i]? = some x → x.isR = true → vs[i]? = some u → blk u = some b → blk c ≠ some b)

def OInv (c : Value) : AO → Prop
  | .dp e size n nn cells => ∃ vs, w.ownsRow 0 e size c n vs ∧ DRs R A H w cells vs ∧ (nn = true → c ≠ .slice none 0 0) ∧ Apart c cells vs
  | .sl e size n nn cells => ∃ vs, w.ownsRow 0 e size c n vs ∧ VRs R A H w cells vs ∧ (nn = true → c ≠ .slice none 0 0)
  | .bx e cells => ∃ g vs, c = .pointer (some ⟨g, 0, none⟩) ∧ w.heap[g]? = some (.cells vs.toArray e (0, 0)) ∧ VRs R A H w cells vs
  | .nil _ _ => c = .slice none 0 0
  | .gone => True
end

/-- Cells of the library that stay as they are laid (none, but for a seat whose functions read such a table). -/
def tabCells : List (Nat × Nat × Value) := (List.range 64).map fun j => (1, j, .int .u8 ((Go.Lib.deBruijn64tab.getD j 0 : Nat) : Int))
def TabP (R : Nat → Prop) (w : World) : Prop := ∀ p, p ∈ tabCells → R p.1 ∧ w.cell? ⟨p.1, p.2.1, none⟩ = some p.2.2
theorem TabP.mono {R R' : Nat → Prop} {w w' : World} (h : TabP R w) (hr : ∀ b, R b → R' b) (hk : ∀ b, R b → w'.heap[b]? = w.heap[b]?) : TabP R' w' := by
  intro p hp
  obtain ⟨h1, h2⟩ := h p hp
  refine ⟨hr _ h1, ?_⟩
  rw [World.cell?_of_block (w := w)]
  · exact h2
  · exact hk _ h1
/-- Blocks of 'w' that the walk may write are apart from each other, from those that it only reads (R) and from those of its callers (F). -/
structure Inv (R F : Nat → Prop) (A : Nat → Value) (H : List AO) (w : World) : Prop where
  rf : ∀ b, R b → ¬ F b
  rlt : ∀ b, R b → b < w.heap.size
  flt : ∀ b, F b → b < w.heap.size
  own : ∀ i o b, H[i]? = some o → o ≠ .gone → foot w (A i) o b → ¬ R b ∧ ¬ F b
  inj : ∀ i j o p b, H[i]? = some o → H[j]? = some p → o ≠ .gone → p ≠ .gone → foot w (A i) o b → foot w (A j) p b → i = j
  obj : ∀ i o, H[i]? = some o → OInv R A H w (A i) o
  tab : TabP R w

/-- The first 'm' objects go on: a row has as many elements or more; if as many, it is the same row. -/
def Ext (m : Nat) (A : Nat → Value) (H : List AO) (A' : Nat → Value) (H' : List AO) : Prop :=
  ∀ i o, i < m → H[i]? = some o → ∃ o', H'[i]? = some o' ∧ (o' = .gone ∨ (o.len ≤ o'.len ∧ o.kind = o'.kind ∧ (o.len = o'.len → A' i = A i)))

structure Stp (m : Nat) (R F : Nat → Prop) (A : Nat → Value) (H : List AO) (w : World) (R' : Nat → Prop) (A' : Nat → Value) (H' : List AO) (w' : World) : Prop where
  rr : ∀ b, R b → R' b
  keep : ∀ b, R b ∨ F b → w'.heap[b]? = w.heap[b]?
  ext : Ext m A H A' H'
  os : w'.os = w.os
  tape : w'.tape = w.tape
  output : w'.output = w.output
  size : w.heap.size ≤ w'.heap.size

theorem Ext.refl (m : Nat) (A : Nat → Value) (H : List AO) : Ext m A H A H := fun i o _ h => ⟨o, h, .inr ⟨Nat.le_refl _, rfl, fun _ => rfl⟩⟩

theorem Ext.trans {m A H A' H' A'' H''} (h : Ext m A H A' H') (k : Ext m A' H' A'' H'') : Ext m A H A'' H'' := by
  intro i o hm ho
  obtain ⟨o', h1, h2⟩ := h i o hm ho
  obtain ⟨o'', k1, k2⟩ := k i o' hm h1
  refine ⟨o'', k1, ?_⟩
  rcases k2 with k2 | ⟨k2, k3, k4⟩
  · exact .inl k2
  · rcases h2 with rfl | ⟨h2, h3, h4⟩
    · left
      cases o'' <;> simp_all [AO.kind]
    · exact .inr ⟨Nat.le_trans h2 k2, h3.trans k3, fun e => (k4 (by omega)).trans (h4 (by omega))⟩

theorem Ext.weak {m n A H A' H'} (h : Ext m A H A' H') (hn : n ≤ m) : Ext n A H A' H' := fun i o hi ho => h i o (Nat.lt_of_lt_of_le hi hn) ho

theorem Stp.refl (m R F A H w) : Stp m R F A H w R A H w := ⟨fun _ h => h, fun _ _ => rfl, Ext.refl m A H, rfl, rfl, rfl, Nat.le_refl _⟩

theorem Stp.trans {m R F A H w R' A' H' w' R'' A'' H'' w''} (h : Stp m R F A H w R' A' H' w') (k : Stp m R' F A' H' w' R'' A'' H'' w'') : Stp m R F A H w R'' A'' H'' w'' :=
  ⟨fun b hb => k.rr b (h.rr b hb), fun b hb => (k.keep b (hb.imp (h.rr b) id)).trans (h.keep b hb), h.ext.trans k.ext, k.os.trans h.os, k.tape.trans h.tape, k.output.trans h.output, Nat.le_trans h.size k.size⟩

theorem Stp.weak {m n R F A H w R' A' H' w'} (h : Stp m R F A H w R' A' H' w') (hn : n ≤ m) : Stp n R F A H w R' A' H' w' :=
  ⟨h.rr, h.keep, h.ext.weak hn, h.os, h.tape, h.output, h.size⟩

/-- All objects go on. -/
theorem Stp.any {n R F A H w R' A' H' w'} (h : Stp H.length R F A H w R' A' H' w') : Stp n R F A H w R' A' H' w' :=
  ⟨h.rr, h.keep, fun i o _ ho => h.ext i o (List.getElem?_eq_some_iff.1 ho).1 ho, h.os, h.tape, h.output, h.size⟩

section
variable {R R' : Nat → Prop} {A A' : Nat → Value} {H H' : List AO} {w w' : World}

mutual
theorem VR.mono (hr : ∀ b, R b → R' b) (hk : ∀ b, R b → w'.heap[b]? = w.heap[b]?) (hx : Ext H.length A H A' H') : ∀ (x : AV) (c : Value), VR R A H w x c → VR R' A' H' w' x c
  | .any, c, h => by simp [VR]
  | .lit v, c, h => by simpa [VR] using h
  | .row size n nn cells, c, h => by
    simp only [VR] at h ⊢
    rcases h with h | ⟨a, cap, vs, h1, h2, h4, h5, h6, h7⟩
    · exact .inl h
    · exact .inr ⟨a, cap, vs, h1, fun z => ⟨hr _ (h2 z).1, (h2 z).2⟩, h4, h5, VRs.mono hr hk hx cells vs h6, fun j u hu => by
        have hn0 : 0 < n := by
          rcases Nat.eq_zero_or_pos n with h0 | h0
          · subst h0; rw [Nat.zero_mul] at h5; rw [List.eq_nil_of_length_eq_zero h5] at hu; cases hu
          · exact h0
        rw [World.cell?_of_block (w := w)]
        · exact h7 j u hu
        · have : (a.add j).block = a.block := by unfold Addr.add; split <;> rfl
          rw [this]; exact hk _ (h2 hn0).1⟩
  | .rptr cells, c, h => by
    simp only [VR] at h ⊢
    obtain ⟨a, vs, h1, h2, h3, h6, h7⟩ := h
    exact ⟨a, vs, h1, hr _ h2, h3, VRs.mono hr hk hx cells vs h6, fun j u hu => by
        rw [World.cell?_of_block (w := w)]
        · exact h7 j u hu
        · have : (a.add j).block = a.block := by unfold Addr.add; split <;> rfl
          rw [this]; exact hk _ h2⟩
  | .own id n, c, h => by
    simp only [VR] at h ⊢
    obtain ⟨o, h1, h5, h2⟩ := h
    obtain ⟨o', k1, k2⟩ := hx id o (List.getElem?_eq_some_iff.1 h1).1 h1
    refine ⟨o', k1, h5, ?_⟩
    rcases k2 with k2 | ⟨k2, k3, k4⟩
    · exact .inl k2
    · rcases h2 with rfl | ⟨h2, h3, h4⟩
      · left; cases o' <;> simp_all [AO.kind]
      · exact .inr ⟨k3 ▸ h2, Nat.le_trans h3 k2, fun e => by rw [k4 (by omega)]; exact h4 (by omega)⟩
  | .optr id n off, c, h => by
    simp only [VR] at h ⊢
    obtain ⟨o, g, h1, h5, h2⟩ := h
    obtain ⟨o', k1, k2⟩ := hx id o (List.getElem?_eq_some_iff.1 h1).1 h1
    refine ⟨o', g, k1, h5, ?_⟩
    rcases k2 with k2 | ⟨k2, k3, k4⟩
    · exact .inl k2
    · rcases h2 with rfl | ⟨h2, h3, h4⟩
      · left; cases o' <;> simp_all [AO.kind]
      · exact .inr ⟨k3 ▸ h2, Nat.le_trans h3 k2, fun e => by rw [k4 (by omega)]; exact h4 (by omega)⟩
  | .ptr id off, c, h => by
    simp only [VR] at h ⊢
    obtain ⟨o, g, h1, h5, h2⟩ := h
    obtain ⟨o', k1, k2⟩ := hx id o (List.getElem?_eq_some_iff.1 h1).1 h1
    refine ⟨o', g, k1, h5, ?_⟩
    rcases k2 with k2 | ⟨k2, k3, k4⟩
    · exact .inl k2
    · rcases h2 with rfl | ⟨h2, h3⟩
      · left; cases o' <;> simp_all [AO.kind]
      · exact .inr ⟨k3 ▸ h2, by rw [k4 (by cases o <;> cases o' <;> simp_all [AO.len, AO.kind])]; exact h3⟩
  | .agg cells, c, h => by
    simp only [VR] at h ⊢
    obtain ⟨vs, h1, h2⟩ := h
    exact ⟨vs, VRs.mono hr hk hx cells vs h1, h2⟩
  | .tup cells, c, h => by
    simp only [VR] at h ⊢
    obtain ⟨vs, h1, h2⟩ := h
    exact ⟨vs, VRs.mono hr hk hx cells vs h1, h2⟩
  | .fn f cells, c, h => by
    simp only [VR] at h ⊢
    obtain ⟨vs, h1, h2⟩ := h
    exact ⟨vs, VRs.mono hr hk hx cells vs h1, h2⟩
theorem VRs.mono (hr : ∀ b, R b → R' b) (hk : ∀ b, R b → w'.heap[b]? = w.heap[b]?) (hx : Ext H.length A H A' H') : ∀ (xs : List AV) (vs : List Value), VRs R A H w xs vs → VRs R' A' H' w' xs vs
  | [], [], _ => by simp [VRs]
  | x :: xs, v :: vs, h => by
    simp only [VRs] at h ⊢
    exact ⟨VR.mono hr hk hx x v h.1, VRs.mono hr hk hx xs vs h.2⟩
  | [], _ :: _, h => by simp [VRs] at h
  | _ :: _, [], h => by simp [VRs] at h
end

theorem Stp.vr {F} (h : Stp H.length R F A H w R' A' H' w') {x c} (k : VR R A H w x c) : VR R' A' H' w' x c := VR.mono h.rr (fun b hb => h.keep b (.inl hb)) h.ext x c k
theorem Stp.vrs {F} (h : Stp H.length R F A H w R' A' H' w') {x c} (k : VRs R A H w x c) : VRs R' A' H' w' x c := VRs.mono h.rr (fun b hb => h.keep b (.inl hb)) h.ext x c k

theorem VRs.length : ∀ {xs : List AV} {vs : List Value}, VRs R A H w xs vs → xs.length = vs.length
  | [], [], _ => rfl
  | _ :: xs, _ :: vs, h => by simp only [VRs] at h; simp [VRs.length h.2]
  | [], _ :: _, h => by simp [VRs] at h
  | _ :: _, [], h => by simp [VRs] at h

theorem VRs.get : ∀ {xs : List AV} {vs : List Value}, VRs R A H w xs vs → ∀ (j : Nat) (x : AV), xs[j]? = some x → ∃ v, vs[j]? = some v ∧ VR R A H w x v
  | x :: xs, v :: vs, h, 0, y, hy => by simp only [VRs] at h; simp at hy; subst hy; exact ⟨v, rfl, h.1⟩
  | x :: xs, v :: vs, h, j + 1, y, hy => by
    simp only [VRs] at h; simp only [List.getElem?_cons_succ] at hy ⊢; exact VRs.get h.2 j y hy
  | [], [], _, j, y, hy => by simp at hy
  | [], _ :: _, h, _, _, _ => by simp [VRs] at h
  | _ :: _, [], h, _, _, _ => by simp [VRs] at h

theorem VRs.append : ∀ {xs ys : List AV} {vs us : List Value}, VRs R A H w xs vs → VRs R A H w ys us → VRs R A H w (xs ++ ys) (vs ++ us)
  | [], ys, [], us, _, k => by simpa using k
  | x :: xs, ys, v :: vs, us, h, k => by
    simp only [VRs] at h; simp only [List.cons_append, VRs]; exact ⟨h.1, VRs.append h.2 k⟩
  | [], _, _ :: _, _, h, _ => by simp [VRs] at h
  | _ :: _, _, [], _, h, _ => by simp [VRs] at h

theorem VRs.set : ∀ {xs : List AV} {vs : List Value}, VRs R A H w xs vs → ∀ (j : Nat) {x v}, VR R A H w x v → VRs R A H w (xs.set j x) (vs.set j v)
  | x :: xs, v :: vs, h, 0, _, _, k => by simp only [VRs] at h; simp only [List.set_cons_zero, VRs]; exact ⟨k, h.2⟩
  | x :: xs, v :: vs, h, j + 1, _, _, k => by simp only [VRs] at h; simp only [List.set_cons_succ, VRs]; exact ⟨h.1, VRs.set h.2 j k⟩
  | [], [], _, j, _, _, _ => by simp [VRs]
  | [], _ :: _, h, _, _, _, _ => by simp [VRs] at h
  | _ :: _, [], h, _, _, _, _ => by simp [VRs] at h

theorem VRs.take : ∀ {xs : List AV} {vs : List Value}, VRs R A H w xs vs → ∀ n, VRs R A H w (xs.take n) (vs.take n)
  | _, _, _, 0 => by simp [VRs]
  | x :: xs, v :: vs, h, n + 1 => by simp only [VRs] at h; simp only [List.take_succ_cons, VRs]; exact ⟨h.1, VRs.take h.2 n⟩
  | [], [], _, n + 1 => by simp [VRs]
  | [], _ :: _, h, _ + 1 => by simp [VRs] at h
  | _ :: _, [], h, _ + 1 => by simp [VRs] at h

theorem VRs.drop : ∀ {xs : List AV} {vs : List Value}, VRs R A H w xs vs → ∀ n, VRs R A H w (xs.drop n) (vs.drop n)
  | _, _, h, 0 => by simpa using h
  | x :: xs, v :: vs, h, n + 1 => by simp only [VRs] at h; simpa using VRs.drop h.2 n
  | [], [], _, n + 1 => by simp [VRs]
  | [], _ :: _, h, _ + 1 => by simp [VRs] at h
  | _ :: _, [], h, _ + 1 => by simp [VRs] at h

theorem VRs.replicate {x : AV} {v : Value} (h : VR R A H w x v) : ∀ n, VRs R A H w (List.replicate n x) (List.replicate n v)
  | 0 => by simp [VRs]
  | n + 1 => by simp only [List.replicate_succ, VRs]; exact ⟨h, VRs.replicate h n⟩

theorem DR.len : ∀ {xs : List DV} {vs : List Value}, DRs R A H w xs vs → xs.length = vs.length
  | [], [], _ => rfl
  | _ :: xs, _ :: vs, h => by simp only [DRs] at h; simp [DR.len h.2]
  | [], _ :: _, h => by simp [DRs] at h
  | _ :: _, [], h => by simp [DRs] at h
theorem DRs.get : ∀ {xs : List DV} {vs : List Value}, DRs R A H w xs vs → ∀ (j : Nat) (x : DV), xs[j]? = some x → ∃ v, vs[j]? = some v ∧ DR R A H w x v
  | x :: xs, v :: vs, h, 0, y, hy => by simp only [DRs] at h; simp at hy; subst hy; exact ⟨v, rfl, h.1⟩
  | x :: xs, v :: vs, h, j + 1, y, hy => by
    simp only [DRs] at h; simp only [List.getElem?_cons_succ] at hy ⊢; exact DRs.get h.2 j y hy
  | [], [], _, j, y, hy => by simp at hy
  | [], _ :: _, h, _, _, _ => by simp [DRs] at h
  | _ :: _, [], h, _, _, _ => by simp [DRs] at h
/-- To another standing, if each cell goes. -/
theorem DRs.imp {R' : Nat → Prop} {A' : Nat → Value} {H' : List AO} {w' : World} : ∀ {xs : List DV} {vs : List Value}, DRs R A H w xs vs → (∀ (j : Nat) x u, xs[j]? = some x → vs[j]? = some u → DR R A H w x u → DR R' A' H' w' x u) → DRs R' A' H' w' xs vs
  | [], [], _, _ => by simp [DRs]
  | x :: xs, v :: vs, h, k => by
    simp only [DRs] at h ⊢
    exact ⟨k 0 x v rfl rfl h.1, DRs.imp h.2 fun j y u h1 h2 h3 => k (j + 1) y u (by simpa using h1) (by simpa using h2) h3⟩
  | [], _ :: _, h, _ => by simp [DRs] at h
  | _ :: _, [], h, _ => by simp [DRs] at h
/-- A row that is owned is found again where its block stands. -/
theorem ownsRow_keep {base : Nat} {t : TypeId} {size n : Nat} {c : Value} {vs : List Value} (hb : ∀ b, blk c = some b → w'.heap[b]? = w.heap[b]?) (h : w.ownsRow base t size c n vs) : w'.ownsRow base t size c n vs := by
  refine ⟨h.1, ?_⟩
  rcases h.2 with hn | ⟨g, cap, cur, rfl, h5, h6, rest⟩
  · exact .inl hn
  · exact .inr ⟨g, cap, cur, rfl, h5, by rw [hb g rfl]; exact h6, rest⟩
theorem foot_self {w : World} {c : Value} {o : AO} {b : Nat} (h : blk c = some b) : foot w c o b := .inl h
theorem foot_plain {w : World} {c : Value} {o : AO} {b : Nat} (hr : ∀ i, o.rAt i = false) (h : foot w c o b) : blk c = some b := by
  rcases h with h | ⟨i, u, h1, _⟩
  · exact h
  · rw [hr i] at h1; cases h1
theorem innerAt_keep {c : Value} {i : Nat} (hb : ∀ b, blk c = some b → w'.heap[b]? = w.heap[b]?) : innerAt w' c i = innerAt w c i := by
  unfold innerAt
  split
  · rename_i a l cap
    rw [World.cell?_of_block (w := w)]
    have : (a.add i).block = a.block := by unfold Addr.add; split <;> rfl
    rw [this]
    exact hb a.block rfl
  · rfl
theorem foot_keep {c : Value} {o : AO} {b : Nat} (hb : ∀ b, blk c = some b → w'.heap[b]? = w.heap[b]?) (h : foot w' c o b) : foot w c o b := by
  rcases h with h | ⟨i, u, h1, h2, h3⟩
  · exact .inl h
  · exact .inr ⟨i, u, h1, by rw [← innerAt_keep hb]; exact h2, h3⟩
/-- What lies in the cells of a row that is owned. -/
theorem inner_of {base : Nat} {t : TypeId} {size n : Nat} {c : Value} {vs : List Value} (h : w.ownsRow base t size c n vs) {i : Nat} {u : Value} (hi : vs[i]? = some u) : innerAt w c i = some u := by
  rcases h.2 with ⟨hn, h0⟩ | ⟨g, cap, cur, rfl, h5, h6, rest⟩
  · have := h.1
    rw [h0, Nat.zero_mul] at this
    rw [List.eq_nil_of_length_eq_zero this] at hi
    cases hi
  · exact h.cells (g := g) rfl i u hi
theorem inner_at {base : Nat} {t : TypeId} {size n : Nat} {c : Value} {vs : List Value} (h : w.ownsRow base t size c n vs) {i : Nat} {u : Value} (hl : i < vs.length) (hi : innerAt w c i = some u) : vs[i]? = some u := by
  have := inner_of h (List.getElem?_eq_getElem hl)
  rw [hi] at this
  rw [List.getElem?_eq_getElem hl]
  exact this.symm
theorem rAt_dp {e : TypeId} {size n : Nat} {nn : Bool} {cells : List DV} {i : Nat} (h : (AO.dp e size n nn cells).rAt i = true) : ∃ d, cells[i]? = some d ∧ d.isR = true := by
  simp only [AO.rAt] at h
  split at h
  · rename_i d hd; exact ⟨d, hd, h⟩
  · cases h
theorem rAt_of {e : TypeId} {size n : Nat} {nn : Bool} {cells : List DV} {i : Nat} {d : DV} (h : cells[i]? = some d) (hd : d.isR = true) : (AO.dp e size n nn cells).rAt i = true := by
  simp only [AO.rAt, h, hd]
/-- The rows of the cells, of a row that owns rows. -/
theorem foot_dp {base : Nat} {e : TypeId} {size n : Nat} {nn : Bool} {cells : List DV} {c : Value} {vs : List Value} (h : w.ownsRow base e size c n vs) (hl : cells.length = vs.length) {b : Nat} (hf : foot w c (.dp e size n nn cells) b) :
    blk c = some b ∨ ∃ (i : Nat) (x : DV) (u : Value), cells[i]? = some x ∧ x.isR = true ∧ vs[i]? = some u ∧ blk u = some b := by
  rcases hf with hf | ⟨i, u, h1, h2, h3⟩
  · exact .inl hf
  · obtain ⟨d, h4, h5⟩ := rAt_dp h1
    have hlt : i < vs.length := by rw [← hl]; exact (List.getElem?_eq_some_iff.1 h4).1
    exact .inr ⟨i, d, u, h4, h5, inner_at h hlt h2, h3⟩
theorem dp_foot {base : Nat} {e : TypeId} {size n : Nat} {nn : Bool} {cells : List DV} {c : Value} {vs : List Value} (h : w.ownsRow base e size c n vs) {b i : Nat} {x : DV} {u : Value} (h1 : cells[i]? = some x) (h2 : x.isR = true) (h3 : vs[i]? = some u) (h4 : blk u = some b) : foot w c (.dp e size n nn cells) b :=
  .inr ⟨i, u, rAt_of h1 h2, inner_of h h3, h4⟩

/-- To another standing, where the values go and the object's blocks stand. -/
theorem OInv.go {c : Value} {o : AO} (hb : ∀ b, foot w c o b → w'.heap[b]? = w.heap[b]?) (hv : ∀ xs vs, VRs R A H w xs vs → VRs R' A' H' w' xs vs) (k : OInv R A H w c o) : OInv R' A' H' w' c o := by
  cases o with
  | gone => trivial
  | nil e s => exact k
  | sl e size n nn cells =>
    obtain ⟨vs, h1, h2, h3⟩ := k
    exact ⟨vs, ownsRow_keep (fun b h => hb b (.inl h)) h1, hv _ _ h2, h3⟩
  | bx e cells =>
    obtain ⟨g, vs, rfl, h2, h3⟩ := k
    exact ⟨g, vs, rfl, by rw [hb g (.inl rfl)]; exact h2, hv _ _ h3⟩
  | dp e size n nn cells =>
    obtain ⟨vs, h1, h2, h3, h4⟩ := k
    refine ⟨vs, ownsRow_keep (fun b h => hb b (.inl h)) h1, h2.imp ?_, h3, h4⟩
    intro j x u hx hu hd
    cases x with
    | v x =>
      have h5 : VRs R A H w [x] [u] := by simp only [VRs, and_true]; exact hd
      have h6 := hv _ _ h5
      simp only [VRs, and_true] at h6
      exact h6
    | r e' s' n' cs' =>
      obtain ⟨us, k1, k2⟩ := hd
      exact ⟨us, ownsRow_keep (fun b h => hb b (dp_foot h1 hx rfl hu h)) k1, hv _ _ k2⟩

theorem OInv.mono {F} (h : Stp H.length R F A H w R' A' H' w') {c : Value} {o : AO} (hb : ∀ b, foot w c o b → w'.heap[b]? = w.heap[b]?) (k : OInv R A H w c o) : OInv R' A' H' w' c o :=
  k.go hb fun _ _ => h.vrs

theorem ownsRow_lt {base : Nat} {t : TypeId} {size n : Nat} {c : Value} {vs : List Value} (h : w.ownsRow base t size c n vs) {b : Nat} (hb : blk c = some b) : b < w.heap.size := by
  rcases h.2 with ⟨hn, _⟩ | ⟨g, cap, cur, rfl, h5, h6, rest⟩
  · subst hn; simp [blk] at hb
  · simp [blk] at hb; subst hb; exact (Array.getElem?_eq_some_iff.1 h6).1

theorem OInv.lt {c : Value} {o : AO} (ho : o ≠ .gone) (k : OInv R A H w c o) {b : Nat} (hb : foot w c o b) : b < w.heap.size := by
  cases o with
  | gone => exact absurd rfl ho
  | nil e s => have hb := foot_plain (fun _ => rfl) hb; rw [show c = .slice none 0 0 from k] at hb; simp [blk] at hb
  | sl e size n nn cells =>
    obtain ⟨vs, h1, h2, h3⟩ := k
    exact ownsRow_lt h1 (foot_plain (fun _ => rfl) hb)
  | bx e cells =>
    obtain ⟨g, vs, rfl, h2, h3⟩ := k
    have hb := foot_plain (fun _ => rfl) hb
    simp [blk] at hb; subst hb; exact (Array.getElem?_eq_some_iff.1 h2).1
  | dp e size n nn cells =>
    obtain ⟨vs, h1, h2, h3, h4⟩ := k
    rcases foot_dp h1 (DR.len h2) hb with hb | ⟨i, x, u, hx, hr, hu, hb⟩
    · exact ownsRow_lt h1 hb
    · obtain ⟨u', hu', hd⟩ := h2.get i x hx
      rw [hu] at hu'; cases hu'
      cases x with
      | v x => cases hr
      | r e' s' n' cs' => obtain ⟨us, k1, _⟩ := hd; exact ownsRow_lt k1 hb
end

/-- One object more: its block is new (or it has none), all else stands. -/
theorem Inv.push {R F A H w w'} {c : Value} {o : AO} (hi : Inv R F A H w) (ho : o ≠ .gone)
    (hs : w.heap.size ≤ w'.heap.size) (hk : ∀ b, b < w.heap.size → w'.heap[b]? = w.heap[b]?) (hos : w'.os = w.os) (htp : w'.tape = w.tape) (hout : w'.output = w.output)
    (hnew : ∀ b, blk c = some b → w.heap.size ≤ b)
    (hob : Stp H.length R F A H w R (fun i => if i = H.length then c else A i) (H ++ [o]) w' → OInv R (fun i => if i = H.length then c else A i) (H ++ [o]) w' c o) (hpl : ∀ i, o.rAt i = false := by intro _; rfl) :
    Inv R F (fun i => if i = H.length then c else A i) (H ++ [o]) w' ∧ Stp H.length R F A H w R (fun i => if i = H.length then c else A i) (H ++ [o]) w' := by
  have hst : Stp H.length R F A H w R (fun i => if i = H.length then c else A i) (H ++ [o]) w' := by
    refine ⟨fun _ h => h, fun b hb => hk b (hb.elim (hi.rlt b) (hi.flt b)), ?_, hos, htp, hout, hs⟩
    intro i p hlt hp
    exact ⟨p, by rw [List.getElem?_append_left hlt]; exact hp, .inr ⟨Nat.le_refl _, rfl, fun _ => if_neg (by omega)⟩⟩
  have split : ∀ i p, (H ++ [o])[i]? = some p → (i = H.length ∧ p = o) ∨ (i < H.length ∧ H[i]? = some p) := by
    intro i p hp
    by_cases hlt : i < H.length
    · rw [List.getElem?_append_left hlt] at hp; exact .inr ⟨hlt, hp⟩
    · rw [List.getElem?_append_right (by omega)] at hp
      have hlt2 := (List.getElem?_eq_some_iff.1 hp).1
      simp at hlt2
      have : i = H.length := by omega
      subst this
      simp at hp
      exact .inl ⟨rfl, hp.symm⟩
  have back : ∀ i p b, H[i]? = some p → p ≠ .gone → foot w' (A i) p b → foot w (A i) p b := fun i p b hp hg hb =>
    foot_keep (fun b h => hk b (OInv.lt hg (hi.obj i p hp) (.inl h))) hb
  refine ⟨⟨hi.rf, fun b hb => Nat.lt_of_lt_of_le (hi.rlt b hb) hs, fun b hb => Nat.lt_of_lt_of_le (hi.flt b hb) hs, ?_, ?_, ?_, hi.tab.mono hst.rr (fun b hb => hst.keep b (.inl hb))⟩, hst⟩
  · intro i p b hp hg hb
    rcases split i p hp with ⟨rfl, rfl⟩ | ⟨hlt, hp⟩
    · simp only [if_true] at hb
      have := hnew b (foot_plain hpl hb)
      exact ⟨fun h => by have := hi.rlt b h; omega, fun h => by have := hi.flt b h; omega⟩
    · rw [if_neg (by omega)] at hb; exact hi.own i p b hp hg (back i p b hp hg hb)
  · intro i j p q b hp hq hgp hgq hb hc
    rcases split i p hp with ⟨rfl, rfl⟩ | ⟨hlt, hp'⟩ <;> rcases split j q hq with ⟨rfl, rfl⟩ | ⟨hlt2, hq'⟩
    · rfl
    · rw [if_pos rfl] at hb; rw [if_neg (by omega)] at hc
      have h1 := hnew b (foot_plain hpl hb)
      have h2 := OInv.lt hgq (hi.obj j q hq') (back j q b hq' hgq hc)
      omega
    · rw [if_neg (by omega)] at hb; rw [if_pos rfl] at hc
      have h1 := hnew b (foot_plain hpl hc)
      have h2 := OInv.lt hgp (hi.obj i p hp') (back i p b hp' hgp hb)
      omega
    · rw [if_neg (by omega)] at hb hc; exact hi.inj i j p q b hp' hq' hgp hgq (back i p b hp' hgp hb) (back j q b hq' hgq hc)
  · intro i p hp
    rcases split i p hp with ⟨rfl, rfl⟩ | ⟨hlt, hp⟩
    · simp only [if_true]; exact hob hst
    · rw [if_neg (by omega)]
      by_cases hg : p = .gone
      · subst hg; trivial
      · exact OInv.mono hst (fun b hb => hk b (OInv.lt hg (hi.obj i p hp) hb)) (hi.obj i p hp)

/-- One object is another now (its blocks are its own or new ones), all else stands. -/
theorem Inv.updF {R F A H w w'} {c : Value} {id : Nat} {o0 o : AO} (hi : Inv R F A H w) (h0 : H[id]? = some o0) (hg0 : o0 ≠ .gone) (ho : o ≠ .gone)
    (hkind : o0.kind = o.kind) (hlen : o0.len ≤ o.len) (hsame : o0.len = o.len → c = A id)
    (hs : w.heap.size ≤ w'.heap.size) (hk : ∀ b, b < w.heap.size → ¬ foot w (A id) o0 b → w'.heap[b]? = w.heap[b]?) (hos : w'.os = w.os) (htp : w'.tape = w.tape) (hout : w'.output = w.output)
    (hnew : ∀ b, foot w' c o b → w.heap.size ≤ b ∨ foot w (A id) o0 b)
    (hob : Stp H.length R F A H w R (fun i => if i = id then c else A i) (H.set id o) w' → OInv R (fun i => if i = id then c else A i) (H.set id o) w' c o) :
    Inv R F (fun i => if i = id then c else A i) (H.set id o) w' ∧ Stp H.length R F A H w R (fun i => if i = id then c else A i) (H.set id o) w' := by
  have hlt : id < H.length := (List.getElem?_eq_some_iff.1 h0).1
  have hst : Stp H.length R F A H w R (fun i => if i = id then c else A i) (H.set id o) w' := by
    refine ⟨fun _ h => h, fun b hb => ?_, ?_, hos, htp, hout, hs⟩
    · refine hk b (hb.elim (hi.rlt b) (hi.flt b)) fun e => ?_
      have := hi.own id o0 b h0 hg0 e
      exact hb.elim this.1 this.2
    intro i p _ hp
    by_cases e : i = id
    · subst e
      rw [h0] at hp; cases hp
      exact ⟨o, by simp [hlt], .inr ⟨hlen, hkind, fun e => by simp only [if_true]; exact hsame e⟩⟩
    · exact ⟨p, by rw [List.getElem?_set_ne (Ne.symm e)]; exact hp, .inr ⟨Nat.le_refl _, rfl, fun _ => if_neg e⟩⟩
  have split : ∀ i p, (H.set id o)[i]? = some p → (i = id ∧ p = o) ∨ (i ≠ id ∧ H[i]? = some p) := by
    intro i p hp
    by_cases e : i = id
    · subst e; simp [hlt] at hp; exact .inl ⟨rfl, hp.symm⟩
    · rw [List.getElem?_set_ne (Ne.symm e)] at hp; exact .inr ⟨e, hp⟩
  have stay : ∀ i p b, i ≠ id → H[i]? = some p → p ≠ .gone → foot w (A i) p b → w'.heap[b]? = w.heap[b]? := fun i p b hne hp hg hb =>
    hk b (OInv.lt hg (hi.obj i p hp) hb) fun e2 => hne (hi.inj i id p o0 b hp h0 hg hg0 hb e2)
  have back : ∀ i p b, i ≠ id → H[i]? = some p → p ≠ .gone → foot w' (A i) p b → foot w (A i) p b := fun i p b hne hp hg hb =>
    foot_keep (fun b h => stay i p b hne hp hg (.inl h)) hb
  refine ⟨⟨hi.rf, fun b hb => Nat.lt_of_lt_of_le (hi.rlt b hb) hs, fun b hb => Nat.lt_of_lt_of_le (hi.flt b hb) hs, ?_, ?_, ?_, hi.tab.mono hst.rr (fun b hb => hst.keep b (.inl hb))⟩, hst⟩
  · intro i p b hp hg hb
    rcases split i p hp with ⟨rfl, rfl⟩ | ⟨e, hp⟩
    · simp only [if_true] at hb
      rcases hnew b hb with h | h
      · exact ⟨fun k => by have := hi.rlt b k; omega, fun k => by have := hi.flt b k; omega⟩
      · exact hi.own _ o0 b h0 hg0 h
    · rw [if_neg e] at hb; exact hi.own i p b hp hg (back i p b e hp hg hb)
  · intro i j p q b hp hq hgp hgq hb hc
    rcases split i p hp with ⟨rfl, rfl⟩ | ⟨e, hp'⟩ <;> rcases split j q hq with ⟨rfl, rfl⟩ | ⟨e2, hq'⟩
    · rfl
    · rw [if_pos rfl] at hb; rw [if_neg e2] at hc
      have hc := back j q b e2 hq' hgq hc
      have h2 := OInv.lt hgq (hi.obj j q hq') hc
      rcases hnew b hb with h | h
      · omega
      · exact hi.inj _ _ o0 q b h0 hq' hg0 hgq h hc
    · rw [if_neg e] at hb; rw [if_pos rfl] at hc
      have hb := back i p b e hp' hgp hb
      have h2 := OInv.lt hgp (hi.obj i p hp') hb
      rcases hnew b hc with h | h
      · omega
      · exact hi.inj _ _ p o0 b hp' h0 hgp hg0 hb h
    · rw [if_neg e] at hb; rw [if_neg e2] at hc; exact hi.inj i j p q b hp' hq' hgp hgq (back i p b e hp' hgp hb) (back j q b e2 hq' hgq hc)
  · intro i p hp
    rcases split i p hp with ⟨rfl, rfl⟩ | ⟨e, hp⟩
    · simp only [if_true]; exact hob hst
    · rw [if_neg e]
      by_cases hg : p = .gone
      · subst hg; trivial
      · exact OInv.mono hst (fun b hb => stay i p b e hp hg hb) (hi.obj i p hp)
/-- The same, of objects whose cells own no rows. -/
theorem Inv.upd {R F A H w w'} {c : Value} {id : Nat} {o0 o : AO} (hi : Inv R F A H w) (h0 : H[id]? = some o0) (hg0 : o0 ≠ .gone) (ho : o ≠ .gone)
    (hkind : o0.kind = o.kind) (hlen : o0.len ≤ o.len) (hsame : o0.len = o.len → c = A id)
    (hs : w.heap.size ≤ w'.heap.size) (hk : ∀ b, b < w.heap.size → blk (A id) ≠ some b → w'.heap[b]? = w.heap[b]?) (hos : w'.os = w.os) (htp : w'.tape = w.tape) (hout : w'.output = w.output)
    (hnew : ∀ b, blk c = some b → w.heap.size ≤ b ∨ blk (A id) = some b)
    (hob : Stp H.length R F A H w R (fun i => if i = id then c else A i) (H.set id o) w' → OInv R (fun i => if i = id then c else A i) (H.set id o) w' c o)
    (hpl : ∀ i, o.rAt i = false := by intro _; rfl) :
    Inv R F (fun i => if i = id then c else A i) (H.set id o) w' ∧ Stp H.length R F A H w R (fun i => if i = id then c else A i) (H.set id o) w' :=
  Inv.updF hi h0 hg0 ho hkind hlen hsame hs (fun b h1 h2 => hk b h1 fun h => h2 (.inl h)) hos htp hout (fun b hb => (hnew b (foot_plain hpl hb)).imp (fun h => h) .inl) hob

/-! ### frames -/
abbrev Env := List (Nat × AV)

def look : Env → Nat → AV
  | [], _ => .any
  | (t, v) :: r, n => if t = n then v else look r n

def rem : Env → Nat → Env
  | [], _ => []
  | (t, v) :: r, n => if t = n then rem r n else (t, v) :: rem r n

def put (N : Nat) (e : Env) (d : Option Nat) (v : AV) : Env :=
  match d with
  | none => e
  | some d => if d < N then (d, v) :: rem e d else rem e d

def ev (e : Env) : Operand → AV
  | .tmp t => look e t
  | .const v => .lit v
  | .func f => .fn f []
  | .global _ => .any

structure EnvOk (R : Nat → Prop) (A : Nat → Value) (H : List AO) (w : World) (N : Nat) (e : Env) (a : Act) : Prop where
  defers : a.defers = []
  size : a.tmps.size = N
  at_ : ∀ p ∈ e, ∃ c, a.tmps[p.1]? = some c ∧ VR R A H w p.2 c

section
variable {R R' F : Nat → Prop} {A A' : Nat → Value} {H H' : List AO} {w w' : World} {N : Nat} {e : Env} {a : Act}

theorem look_mem : ∀ (e : Env) (t : Nat), look e t = .any ∨ (t, look e t) ∈ e
  | [], _ => .inl rfl
  | (s, v) :: r, t => by
    unfold look
    by_cases h : s = t
    · subst h; simp
    · rw [if_neg h]; exact (look_mem r t).imp id (List.mem_cons_of_mem _)

theorem rem_mem : ∀ (e : Env) (t : Nat) p, p ∈ rem e t → p ∈ e ∧ p.1 ≠ t
  | [], _, p, h => by simp [rem] at h
  | (s, v) :: r, t, p, h => by
    unfold rem at h
    by_cases hb : s = t
    · rw [if_pos hb] at h; have := rem_mem r t p h; exact ⟨List.mem_cons_of_mem _ this.1, this.2⟩
    · rw [if_neg hb] at h
      rcases List.mem_cons.1 h with rfl | h
      · exact ⟨by simp, hb⟩
      · have := rem_mem r t p h; exact ⟨List.mem_cons_of_mem _ this.1, this.2⟩

theorem EnvOk.look (h : EnvOk R A H w N e a) (t : Nat) : VR R A H w (look e t) (a.tmps.getD t undef) := by
  rcases look_mem e t with k | k
  · rw [k]; simp [VR]
  · obtain ⟨c, h1, h2⟩ := h.at_ _ k
    simp only [Array.getD_eq_getD_getElem?] at *
    rw [h1]; exact h2

theorem EnvOk.ev (h : EnvOk R A H w N e a) (x : Operand) : VR R A H w (ev e x) (a.eval x) := by
  cases x with
  | tmp t => exact h.look t
  | const v => simp [YtdaneldckdjjoaaDoorA.ev, Act.eval, VR]
  | global g => simp [YtdaneldckdjjoaaDoorA.ev, VR]
  | func f => simp only [YtdaneldckdjjoaaDoorA.ev, Act.eval, VR]; exact ⟨[], by simp [VRs], rfl⟩

theorem EnvOk.stp (h : EnvOk R A H w N e a) (k : Stp H.length R F A H w R' A' H' w') : EnvOk R' A' H' w' N e a :=
  ⟨h.defers, h.size, fun p hp => let ⟨c, h1, h2⟩ := h.at_ p hp; ⟨c, h1, k.vr h2⟩⟩

theorem EnvOk.put (h : EnvOk R A H w N e a) (d : Option Nat) {v : AV} {c : Value} (k : VR R A H w v c) : EnvOk R A H w N (put N e d v) (a.put d c) := by
  cases d with
  | none => exact h
  | some d =>
    have hrem : ∀ p ∈ rem e d, ∃ c', (a.put (some d) c).tmps[p.1]? = some c' ∧ VR R A H w p.2 c' := by
      intro p hp
      have hp := rem_mem e d p hp
      obtain ⟨c', h1, h2⟩ := h.at_ p hp.1
      refine ⟨c', ?_, h2⟩
      simp only [Act.put]
      rw [Array.getElem?_setIfInBounds_ne (Ne.symm hp.2)]; exact h1
    refine ⟨h.defers, by simp [Act.put, h.size], ?_⟩
    simp only [YtdaneldckdjjoaaDoorA.put]
    by_cases hb : d < N
    · rw [if_pos hb]
      intro p hp
      rcases List.mem_cons.1 hp with rfl | hp
      · have hlt : d < a.tmps.size := by rw [h.size]; exact hb
        refine ⟨c, ?_, k⟩
        simp [Act.put, hlt]
      · exact hrem p hp
    · rw [if_neg hb]; exact hrem

theorem EnvOk.sub {e' : Env} (h : EnvOk R A H w N e a) (hs : ∀ p ∈ e', p ∈ e) : EnvOk R A H w N e' a := ⟨h.defers, h.size, fun p hp => h.at_ p (hs p hp)⟩
end

/-! ### what a piece of code comes to -/
def thn (K : Env → List AO → Prop) (Q : Exit → Env → List AO → Prop) : Exit → Env → List AO → Prop
  | .normal, e, H => K e H
  | x, e, H => Q x e H

def inBlk (id : Nat) (Q : Exit → Env → List AO → Prop) : Exit → Env → List AO → Prop
  | .exit id', e, H => if id' = id then Q .normal e H else Q (.exit id') e H
  | x, e, H => Q x e H

def Lift (m : Nat) (Q : Exit → Env → List AO → Prop) (R F : Nat → Prop) (A : Nat → Value) (H : List AO) (w : World) (N : Nat) : Exit → Act → World → Prop :=
  fun x a' w' => ∃ e' H' R' A', Q x e' H' ∧ Inv R' F A' H' w' ∧ EnvOk R' A' H' w' N e' a' ∧ Stp m R F A H w R' A' H' w'

def AWp (P : Program) (m N : Nat) (c : Code) (e : Env) (H : List AO) (Q : Exit → Env → List AO → Prop) : Prop :=
  ∀ R F A w a, Inv R F A H w → EnvOk R A H w N e a → c.wp P (Lift m Q R F A H w N) a w

section
variable {P : Program} {m N : Nat} {e : Env} {H : List AO} {Q : Exit → Env → List AO → Prop}

theorem Lift.trans {R F A H w R' A' H' w'} {x : Exit} {a : Act} {w'' : World} (hs : Stp m R F A H w R' A' H' w') (h : Lift m Q R' F A' H' w' N x a w'') : Lift m Q R F A H w N x a w'' :=
  let ⟨e', H', R', A', h1, h2, h3, h4⟩ := h
  ⟨e', H', R', A', h1, h2, h3, hs.trans h4⟩

theorem AWp.conseq {c : Code} {Q' : Exit → Env → List AO → Prop} (h : AWp P m N c e H Q) (hq : ∀ x e H, Q x e H → Q' x e H) : AWp P m N c e H Q' :=
  fun R F A w a hi he => wp_mono (h R F A w a hi he) fun _ _ _ ⟨e', H', R', A', h1, h2⟩ => ⟨e', H', R', A', hq _ _ _ h1, h2⟩

theorem AWp.sub {c : Code} {e' : Env} (hs : ∀ p ∈ e', p ∈ e) (h : AWp P m N c e' H Q) : AWp P m N c e H Q :=
  fun R F A w a hi he => h R F A w a hi (he.sub hs)

theorem AWp.skip (h : Q .normal e H) : AWp P m N .skip e H Q := fun R F A w a hi he => wp_skip ⟨e, H, R, A, h, hi, he, Stp.refl ..⟩
theorem AWp.label {l : Nat} (h : Q .normal e H) : AWp P m N (.label l) e H Q := fun R F A w a hi he => wp_label ⟨e, H, R, A, h, hi, he, Stp.refl ..⟩
theorem AWp.exit {l : Nat} (h : Q (.exit l) e H) : AWp P m N (.exit l) e H Q := fun R F A w a hi he => wp_exit ⟨e, H, R, A, h, hi, he, Stp.refl ..⟩
theorem AWp.ret (h : Q .ret e H) : AWp P m N .ret e H Q := fun R F A w a hi he => wp_ret ⟨e, H, R, A, h, hi, he, Stp.refl ..⟩

theorem AWp.seq {x y : Code} (h : AWp P m N x e H (thn (fun e' H' => AWp P m N y e' H' Q) Q)) : AWp P m N (.seq x y) e H Q := by
  intro R F A w a hi he
  apply wp_seq
  refine wp_mono (h R F A w a hi he) ?_
  rintro x a' w' ⟨e', H', R', A', hq, hi', he', hs⟩
  cases x with
  | normal => exact wp_mono (hq R' F A' w' a' hi' he') fun _ _ _ => Lift.trans hs
  | _ => exact ⟨e', H', R', A', hq, hi', he', hs⟩

theorem AWp.block {id : Nat} {c : Code} (h : AWp P m N c e H (inBlk id Q)) : AWp P m N (.block id c) e H Q := by
  intro R F A w a hi he
  apply wp_block
  refine wp_mono (h R F A w a hi he) ?_
  rintro x a' w' ⟨e', H', R', A', hq, hi', he', hs⟩
  cases x with
  | exit id' =>
    simp only [Exit.inBlock]
    simp only [inBlk] at hq
    split
    · rename_i hid; rw [if_pos hid] at hq; exact ⟨e', H', R', A', hq, hi', he', hs⟩
    · rename_i hid; rw [if_neg hid] at hq; exact ⟨e', H', R', A', hq, hi', he', hs⟩
  | _ => exact ⟨e', H', R', A', hq, hi', he', hs⟩

theorem AWp.cond {c : Operand} {x y : Code} {b : Bool} (hc : ev e c = .lit (.bool b)) (h1 : b = true → AWp P m N x e H Q) (h2 : b = false → AWp P m N y e H Q) : AWp P m N (.cond c x y) e H Q := by
  intro R F A w a hi he
  have hv := he.ev c
  rw [hc] at hv
  simp only [VR] at hv
  exact wp_cond_split hv (fun h => h1 h R F A w a hi he) (fun h => h2 h R F A w a hi he)

theorem AWp.loop {c : Code} (I : Nat → Env → List AO → Prop)
    (round : ∀ k e H, I k e H → AWp P m N c e H (thn (fun e' H' => ∃ k', k' < k ∧ I k' e' H') Q)) {k : Nat} (h0 : I k e H) : AWp P m N (.loop c) e H Q := by
  intro R F A w a hi he b K cs
  have key : ∀ n e H, I n e H → ∀ R A w a, Inv R F A H w → EnvOk R A H w N e a →
      ∃ x a' w', Lift m Q R F A H w N x a' w' ∧ Arrives P (lone (b.at a (.code c :: .inLoop c :: K)) cs w) b K cs x a' w' := by
    intro n
    induction n using Nat.strongRecOn with
    | _ n ih =>
      intro e H hI R A w a hi he
      obtain ⟨x, a₁, w₁, ⟨e', H', R', A', hq, hi', he', hs⟩, harr⟩ := round n e H hI R F A w a hi he b (.inLoop c :: K) cs
      cases x with
      | normal =>
        obtain ⟨k', hlt, hI₁⟩ := hq
        obtain ⟨x₂, a₂, w₂, hq₂, harr₂⟩ := ih k' hlt e' H' hI₁ R' A' w₁ a₁ hi' he'
        exact ⟨x₂, a₂, w₂, Lift.trans hs hq₂, .of_steps (Steps.trans harr (.one step_inLoop)) harr₂⟩
      | exit id => exact ⟨_, a₁, w₁, ⟨e', H', R', A', hq, hi', he', hs⟩, .pass (x := .inLoop c) rfl (fun _ _ => .inl (by simp)) harr⟩
      | goto l => exact ⟨_, a₁, w₁, ⟨e', H', R', A', hq, hi', he', hs⟩, .pass (x := .inLoop c) rfl (fun _ _ => .inl (by simp)) harr⟩
      | ret => exact ⟨_, a₁, w₁, ⟨e', H', R', A', hq, hi', he', hs⟩, .pass (x := .inLoop c) rfl (fun _ _ => .inl (by simp)) harr⟩
      | panic ch => exact ⟨_, a₁, w₁, ⟨e', H', R', A', hq, hi', he', hs⟩, .pass (x := .inLoop c) rfl (fun _ _ => .inl (by simp)) harr⟩
      | outgrown => exact ⟨_, a₁, w₁, ⟨e', H', R', A', hq, hi', he', hs⟩, .pass (x := .inLoop c) rfl (fun _ _ => .inl (by simp)) harr⟩
  obtain ⟨x, a', w', hq, harr⟩ := key _ e H h0 R A w a hi he
  exact ⟨x, a', w', hq, .of_steps (.one step_loop) harr⟩

/-! ### regions in their written order -/
def AList (P : Program) (m N : Nat) (ops : Array Oper) (rest : List Oper) (e : Env) (H : List AO) (K : Env → List AO → Prop) : Prop :=
  ∀ R F A w a (G : Exit → Act → World → Prop), Inv R F A H w → EnvOk R A H w N e a →
    (∀ a' w' e' H' R' A', K e' H' → Inv R' F A' H' w' → EnvOk R' A' H' w' N e' a' → Stp m R F A H w R' A' H' w' → G .normal a' w') → wpList P ops G rest a w

theorem AWp.region {id : Nat} {l : List Oper} (h : AList P m N l.toArray l e H (fun e' H' => Q .normal e' H')) : AWp P m N (.region id l.toArray false) e H Q :=
  fun R F A w a hi he => wp_region_lit (h R F A w a _ hi he fun a' w' e' H' R' A' h1 h2 h3 h4 => ⟨e', H', R', A', h1, h2, h3, h4⟩)

theorem AList.nil {ops : Array Oper} {K : Env → List AO → Prop} (h : K e H) : AList P m N ops [] e H K :=
  fun R F A w a G hi he hg => wpList_nil (hg a w e H R A h hi he (Stp.refl ..))

def AStep (P : Program) (N : Nat) (o : Oper) (e : Env) (H : List AO) (v : AV) (H' : List AO) : Prop :=
  ∀ R F A w a, Inv R F A H w → EnvOk R A H w N e a → ∃ c w' A',
    ((execOp a.eval o).run P w = .ok (.value c) w' ∨ (c = undef ∧ (execOp a.eval o).run P w = .ok .skip w')) ∧ Inv R F A' H' w' ∧ VR R A' H' w' v c ∧ Stp H.length R F A H w R A' H' w'

/-- Is the operation carried out? -/
def wantA (ops : Array Oper) (e : Env) (o : Oper) (b : Bool) : Prop :=
  match o.guard with
  | none => b = true
  | some (j, want) => ∃ t c, (ops[j]?).bind (·.dst) = some t ∧ look e t = .lit (.bool c) ∧ (c == want) = b

theorem wanted_of {ops : Array Oper} {o : Oper} {b : Bool} {R A w a} (h : wantA ops e o b) (he : EnvOk R A H w N e a) : Region.wanted o (yielded ops a.tmps) = b := by
  unfold wantA at h
  unfold Region.wanted
  split at h
  · rename_i hg; rw [hg]; exact h.symm
  · rename_i j want hg
    rw [hg]
    obtain ⟨t, c, h1, h2, h3⟩ := h
    have hv := he.look t
    rw [h2] at hv
    simp only [VR] at hv
    have hm : (t, AV.lit (.bool c)) ∈ e := by
      rcases look_mem e t with k | k
      · rw [h2] at k; cases k
      · rw [h2] at k; exact k
    obtain ⟨c', k1, k2⟩ := he.at_ _ hm
    simp only [VR] at k2
    subst k2
    simp only [yielded, h1, Option.bind_some, k1]
    rw [← h3]
    simp

theorem AList.op {ops : Array Oper} {rest : List Oper} {o : Oper} {v : AV} {H' : List AO} {K : Env → List AO → Prop} (hw : wantA ops e o true) (hs : AStep P N o e H v H')
    (hn : AList P m N ops rest (put N e o.dst v) H' K) : AList P m N ops (o :: rest) e H K := by
  intro R F A w a G hi he hG
  obtain ⟨c, w', A', hrun, hi', hv, hst⟩ := hs R F A w a hi he
  unfold wpList
  rw [if_pos (by rw [wanted_of hw he])]
  have hnext : wpList P ops G rest (a.put o.dst c) w' :=
    hn R F A' w' _ G hi' ((he.stp hst).put o.dst hv) fun a'' w'' e' H'' R' A'' h1 h2 h3 h4 => hG a'' w'' e' H'' R' A'' h1 h2 h3 (hst.any.trans h4)
  refine .inl ?_
  unfold Oper.wp
  rcases hrun with hrun | ⟨rfl, hrun⟩
  · rw [hrun]; exact hnext
  · rw [hrun]; exact hnext

theorem AList.no {ops : Array Oper} {rest : List Oper} {o : Oper} {K : Env → List AO → Prop} (hw : wantA ops e o false)
    (hn : AList P m N ops rest (put N e o.dst (.lit undef)) H K) : AList P m N ops (o :: rest) e H K := by
  intro R F A w a G hi he hG
  unfold wpList
  rw [if_neg (by rw [wanted_of hw he]; simp)]
  exact hn R F A w _ G hi (he.put o.dst (by simp [VR])) hG
end

/-! ### calls -/
def CallPost (Q : AV → List AO → Prop) (R F : Nat → Prop) (A : Nat → Value) (H : List AO) (w : World) : Ending → World → Prop :=
  fun x w' => ∃ v r H' R' A', x = .returned v ∧ Q r H' ∧ Inv R' F A' H' w' ∧ VR R' A' H' w' r v ∧ Stp H.length R F A H w R' A' H' w'

def ACalls (P : Program) (f : FuncId) (avs : List AV) (H : List AO) (Q : AV → List AO → Prop) : Prop :=
  ∀ R F A w vs, Inv R F A H w → VRs R A H w avs vs → Calls P f vs.toArray w (CallPost Q R F A H w)

/-- The frame a call begins with. -/
def env0 : List AV → Nat → Env
  | [], _ => []
  | v :: r, t => (t, v) :: env0 r (t + 1)

theorem env0_mem : ∀ (avs : List AV) (t : Nat) p, p ∈ env0 avs t → ∃ j, p.1 = t + j ∧ avs[j]? = some p.2
  | [], _, _, h => by simp [env0] at h
  | v :: r, t, p, h => by
    rcases List.mem_cons.1 h with rfl | h
    · exact ⟨0, rfl, rfl⟩
    · obtain ⟨j, h1, h2⟩ := env0_mem r (t + 1) p h
      exact ⟨j + 1, by omega, by simpa using h2⟩

/-- What the results' temporaries hold, as one value. -/
def resA (e : Env) : List Nat → AV
  | [t] => look e t
  | rs => .tup (rs.map (look e))

theorem ACalls.of {P : Program} {f : FuncId} {fn : Func} {c : Code} {avs : List AV} {H : List AO} {Q : AV → List AO → Prop} (rs : List Nat)
    (hf : P.funcs[f]? = some fn) (hb : fn.body = some c) (hn : avs.length ≤ fn.ntmps) (hres : fn.results = (rs.map ResultVar.tmp).toArray) (hlen : rs.length ≤ 4)
    (h : AWp P H.length fn.ntmps c (env0 avs 0) H (fun x e H' => (x = .normal ∨ x = .ret) ∧ Q (resA e rs) H')) : ACalls P f avs H Q := by
  intro R F A w vs hi hvs
  have hl := hvs.length
  refine calls_of_wp hf hb ?_
  have he : EnvOk R A H w fn.ntmps (env0 avs 0) { tmps := vs.toArray ++ Array.replicate (fn.ntmps - vs.toArray.size) undef, defers := [] } := by
    refine ⟨rfl, by simp; omega, ?_⟩
    intro p hp
    obtain ⟨j, h1, h2⟩ := env0_mem avs 0 p hp
    obtain ⟨v, h3, h4⟩ := hvs.get j _ h2
    have hj : j < vs.length := (List.getElem?_eq_some_iff.1 h3).1
    refine ⟨v, ?_, h4⟩
    simp only [Nat.zero_add] at h1
    rw [h1, Array.getElem?_append_left (by simpa using hj)]
    simpa using h3
  refine wp_mono (h R F A w _ hi he) ?_
  rintro x a' w' ⟨e', H', R', A', ⟨hx, hq⟩, hi', he', hs⟩
  have hr : ∃ v, (results fn a'.tmps).run P w' = .ok v w' ∧ VR R' A' H' w' (resA e' rs) v := by
    match rs, hres, hlen with
    | [], hres, _ => exact ⟨.tuple #[], by simp [results, hres], by simp only [resA, VR]; exact ⟨[], by simp only [List.map, VRs], rfl⟩⟩
    | [t0], hres, _ => exact ⟨a'.tmps.getD t0 undef, by simp [results, hres], he'.look t0⟩
    | [t0, t1], hres, _ => exact ⟨.tuple #[a'.tmps.getD t0 undef, a'.tmps.getD t1 undef], by simp [results, hres], by simp only [resA, VR]; exact ⟨[_, _], by simp only [List.map, VRs]; exact ⟨he'.look t0, he'.look t1, trivial⟩, rfl⟩⟩
    | [t0, t1, t2], hres, _ => exact ⟨.tuple #[a'.tmps.getD t0 undef, a'.tmps.getD t1 undef, a'.tmps.getD t2 undef], by simp [results, hres], by simp only [resA, VR]; exact ⟨[_, _, _], by simp only [List.map, VRs]; exact ⟨he'.look t0, he'.look t1, he'.look t2, trivial⟩, rfl⟩⟩
    | [t0, t1, t2, t3], hres, _ => exact ⟨.tuple #[a'.tmps.getD t0 undef, a'.tmps.getD t1 undef, a'.tmps.getD t2 undef, a'.tmps.getD t3 undef], by simp [results, hres], by simp only [resA, VR]; exact ⟨[_, _, _, _], by simp only [List.map, VRs]; exact ⟨he'.look t0, he'.look t1, he'.look t2, he'.look t3, trivial⟩, rfl⟩⟩
    | _ :: _ :: _ :: _ :: _ :: _, _, h => simp at h
  obtain ⟨v, hv1, hv2⟩ := hr
  rcases hx with rfl | rfl
  · exact ⟨he'.defers, v, hv1, v, _, H', R', A', rfl, hq, hi', hv2, hs⟩
  · exact ⟨he'.defers, v, hv1, v, _, H', R', A', rfl, hq, hi', hv2, hs⟩
/-! ### memory as the walk reads it -/
/-- The values ahead of the first row that a cell owns. -/
def vpre : List DV → List AV
  | .v x :: xs => x :: vpre xs
  | _ => []
theorem vpre_at : ∀ (xs : List DV) (j : Nat) (x : AV), (vpre xs)[j]? = some x → xs[j]? = some (.v x)
  | [], j, x, h => by simp [vpre] at h
  | .r .. :: xs, j, x, h => by simp [vpre] at h
  | .v y :: xs, 0, x, h => by simp [vpre] at h; simp [h]
  | .v y :: xs, j + 1, x, h => by simp only [vpre, List.getElem?_cons_succ] at h ⊢; exact vpre_at xs j x h
theorem vpre_vrs {R : Nat → Prop} {A : Nat → Value} {H : List AO} {w : World} : ∀ {xs : List DV} {vs : List Value}, DRs R A H w xs vs → VRs R A H w (vpre xs) (vs.take (vpre xs).length)
  | [], [], _ => by simp [vpre, VRs]
  | .v x :: xs, v :: vs, h => by
    simp only [DRs] at h
    simp only [vpre, List.length_cons, List.take_succ_cons, VRs]
    exact ⟨h.1, vpre_vrs h.2⟩
  | .r .. :: xs, v :: vs, h => by simp [vpre, VRs]
  | [], _ :: _, h => by simp [DRs] at h
  | _ :: _, [], h => by simp [DRs] at h
theorem DRs.drop {R : Nat → Prop} {A : Nat → Value} {H : List AO} {w : World} : ∀ {xs : List DV} {vs : List Value}, DRs R A H w xs vs → ∀ n, DRs R A H w (xs.drop n) (vs.drop n)
  | _, _, h, 0 => by simpa using h
  | x :: xs, v :: vs, h, n + 1 => by simp only [DRs] at h; simpa using DRs.drop h.2 n
  | [], [], _, n + 1 => by simp [DRs]
  | [], _ :: _, h, _ + 1 => by simp [DRs] at h
  | _ :: _, [], h, _ + 1 => by simp [DRs] at h
def mem (H : List AO) : AV → Option (List AV)
  | .ptr id off => match H[id]? with
    | some (.bx _ cells) => some (cells.drop off)
    | _ => none
  | .optr id n off => match H[id]? with
    | some (.sl _ _ m _ cells) => if n = m then some (cells.drop off) else none
    | some (.dp _ _ m _ cells) => if n = m then some (vpre (cells.drop off)) else none
    | _ => none
  | .rptr cells => some cells
  | _ => none

section
variable {P : Program} {R F : Nat → Prop} {A : Nat → Value} {H : List AO} {w : World} {N : Nat} {e : Env}

theorem cells_slice {w : World} {base : Nat} {t : TypeId} {size n m : Nat} {g l cap : Nat} {vs : List Value} (h : w.ownsRow base t size (.slice (some ⟨g, 0, none⟩) l cap) n vs) :
    ∀ j u, vs[j]? = some u → w.cell? ((⟨g, 0, none⟩ : Addr).add j) = some u := fun j u hu => h.cells (g := g) rfl j u hu

theorem ownsRow_len {w : World} {base : Nat} {t : TypeId} {size n : Nat} {g l cap : Nat} {vs : List Value} (h : w.ownsRow base t size (.slice (some ⟨g, 0, none⟩) l cap) n vs) : l = n ∧ n ≤ cap := by
  rcases h.2 with ⟨h', _⟩ | ⟨g', cap', cur, h', _, _, h3, _⟩
  · simp at h'
  · simp only [Value.slice.injEq] at h'; exact ⟨h'.2.1, h'.2.2 ▸ h3⟩

/-- What is read of memory, cell by cell. -/
theorem mem_sound (hi : Inv R F A H w) {x : AV} {c : Value} (hv : VR R A H w x c) {cs : List AV} (hm : mem H x = some cs) :
    ∃ a vs, c = .pointer (some a) ∧ a.spot = none ∧ VRs R A H w cs vs ∧ ∀ j u, vs[j]? = some u → w.cell? (a.add j) = some u := by
  cases x with
  | ptr id off =>
    simp only [mem] at hm
    simp only [VR] at hv
    obtain ⟨o, g, h1, rfl, h2⟩ := hv
    have hob := hi.obj id o h1
    rw [h1] at hm
    cases o with
    | bx t cells =>
      simp only [Option.some.injEq] at hm
      subst hm
      obtain ⟨_, h3⟩ := h2.resolve_left (by simp)
      obtain ⟨g', vs, h4, h5, h6⟩ := hob
      rw [h3] at h4
      simp only [Value.pointer.injEq, Option.some.injEq, Addr.mk.injEq, and_true] at h4
      subst h4
      refine ⟨_, vs.drop off, rfl, rfl, h6.drop off, ?_⟩
      intro j u hu
      rw [Addr.add_mid, cell_of_row w g (off + j) vs.toArray t (0, 0) h5]
      simpa [List.getElem?_drop] using hu
    | sl => simp at hm
    | dp => simp at hm
    | nil => simp at hm
    | gone => simp at hm
  | optr id n off =>
    simp only [mem] at hm
    simp only [VR] at hv
    obtain ⟨o, g, h1, rfl, h2⟩ := hv
    have hob := hi.obj id o h1
    rw [h1] at hm
    cases o with
    | bx t cells => simp at hm
    | nil => simp at hm
    | gone => simp at hm
    | dp t size m nn cells =>
      simp only at hm
      split at hm
      · rename_i hnm
        simp only [Option.some.injEq] at hm
        subst hm
        obtain ⟨_, _, h4⟩ := h2.resolve_left (by simp)
        obtain ⟨l, cap, h5⟩ := h4 hnm
        obtain ⟨vs, h6, h7, h8⟩ := hob
        rw [h5] at h6
        refine ⟨_, (vs.drop off).take (vpre (cells.drop off)).length, rfl, rfl, vpre_vrs (h7.drop off), ?_⟩
        intro j u hu
        rw [List.getElem?_take] at hu
        split at hu
        · rw [List.getElem?_drop] at hu
          have := cells_slice (m := 0) h6 (off + j) u hu
          rw [Addr.add_mid] at this ⊢
          simpa using this
        · cases hu
      · cases hm
    | sl t size m nn cells =>
      simp only at hm
      split at hm
      · rename_i hnm
        simp only [Option.some.injEq] at hm
        subst hm
        obtain ⟨_, _, h4⟩ := h2.resolve_left (by simp)
        obtain ⟨l, cap, h5⟩ := h4 hnm
        obtain ⟨vs, h6, h7, h8⟩ := hob
        rw [h5] at h6
        refine ⟨_, vs.drop off, rfl, rfl, h7.drop off, ?_⟩
        intro j u hu
        rw [List.getElem?_drop] at hu
        have := cells_slice (m := 0) h6 (off + j) u hu
        rw [Addr.add_mid] at this ⊢
        simpa using this
      · cases hm
  | rptr cells =>
    simp only [mem, Option.some.injEq] at hm
    subst hm
    simp only [VR] at hv
    obtain ⟨a, vs, rfl, h2, h3, h4, h5⟩ := hv
    exact ⟨a, vs, rfl, h3, h4, h5⟩
  | _ => simp [mem] at hm

theorem alloc_old (w : World) (o : Obj) (b : Nat) (h : b < w.heap.size) : (w.alloc o).heap[b]? = w.heap[b]? := by
  show (w.heap.push o)[b]? = _
  rw [Array.getElem?_push, if_neg (by omega)]

def isP : AV → Bool
  | .ptr .. | .optr .. | .rptr .. => true
  | _ => false

/-- The operation looks at no memory: in whatever world it yields this value. -/
def AYield (P : Program) (N : Nat) (o : Oper) (e : Env) (H : List AO) (v : AV) : Prop :=
  ∀ R F A w a, Inv R F A H w → EnvOk R A H w N e a → ∃ c, (∀ W, (execOp a.eval o).run P W = .ok (.value c) W) ∧ VR R A H w v c

theorem AYield.step {o : Oper} {v : AV} (h : AYield P N o e H v) : AStep P N o e H v H := by
  intro R F A w a hi he
  obtain ⟨c, h1, h2⟩ := h R F A w a hi he
  exact ⟨c, w, A, .inl (h1 w), hi, h2, Stp.refl ..⟩

theorem AYield.move {o : Oper} {x : Operand} (ho : o.op = .move x) : AYield P N o e H (ev e x) :=
  fun R F A w a hi he => ⟨a.eval x, fun w => by unfold execOp; rw [ho]; rfl, he.ev x⟩

theorem AYield.assign {o : Oper} {x : Operand} (ho : o.op = .assign x) : AYield P N o e H (ev e x) :=
  fun R F A w a hi he => ⟨a.eval x, fun w => by unfold execOp; rw [ho]; rfl, he.ev x⟩

/-- A load of one cell. -/
theorem AStep.load1 {o : Oper} {t : TypeId} {x : Operand} {d : TypeDesc} {cs : List AV} {v : AV} (ho : o.op = .load t x) (hu : P.underlying t = some d) (hd : d.isRow = false)
    (hm : mem H (ev e x) = some cs) (hc : cs[0]? = some v) : AStep P N o e H v H := by
  intro R F A w a hi he
  obtain ⟨p, vs, h1, h2, h3, h4⟩ := mem_sound hi (he.ev x) hm
  obtain ⟨c, h5, h6⟩ := h3.get 0 v hc
  have h7 := h4 0 c h5
  have hp : p.add 0 = p := by simp [Addr.add]
  rw [hp] at h7
  refine ⟨c, w, A, .inl ?_, hi, h6, Stp.refl ..⟩
  have hagg : (isAgg t).run P w = .ok false w := by
    unfold isAgg
    rw [Sem.run_bind, run_underlying hu w]
    cases d <;> simp_all [TypeDesc.isRow]
  unfold execOp
  rw [ho]
  simp only [h1, Instr.loadAt, Instr.sureAddr, loadVar, Sem.run_bind, Sem.run_pure, Result.andThen_ok, hagg, Bool.false_eq_true, if_false, run_load, h7]

/-- A load of a struct. -/
theorem AStep.loadN {o : Oper} {t : TypeId} {x : Operand} {d : TypeDesc} {i : TypeInfo} {cs : List AV} (ho : o.op = .load t x) (hu : P.underlying t = some d) (hd : d.isRow = true)
    (hi : P.info? t = some i) (hm : mem H (ev e x) = some cs) (hc : i.size ≤ cs.length) : AStep P N o e H (.agg (cs.take i.size)) H := by
  intro R F A w a hinv he
  obtain ⟨p, vs, h1, h2, h3, h4⟩ := mem_sound hinv (he.ev x) hm
  have hlen := h3.length
  refine ⟨.agg (vs.take i.size).toArray, w, A, .inl ?_, hinv, by simp only [VR]; exact ⟨_, h3.take _, rfl⟩, Stp.refl ..⟩
  have hp : p = ⟨p.block, p.off, none⟩ := by cases p; simp_all
  have hr : w.rangeAt p.block p.off (vs.take i.size) := by
    intro j v hj
    rw [← Addr.add_mid, ← hp]
    refine h4 j v ?_
    rw [List.getElem?_take] at hj
    split at hj
    · exact hj
    · cases hj
  have := run_loadAt_mid (P := P) w p.block p.off t (vs.take i.size) d hr hu hd (by rw [hi]; simp; omega)
  unfold execOp
  rw [ho]
  simp only [h1]
  rw [hp]
  simp only [this, Sem.run_bind, Result.andThen_ok, Sem.run_pure]

def HB (R : Nat → Prop) (A : Nat → Value) (H : List AO) : Nat → Prop := fun b => R b ∨ ∃ i o, H[i]? = some o ∧ o ≠ .gone ∧ blk (A i) = some b

/-- A step that only adds objects. -/
def ANew (P : Program) (N : Nat) (o : Oper) (e : Env) (H : List AO) (v : AV) (H' : List AO) : Prop :=
  ∀ R F A w a, Inv R F A H w → EnvOk R A H w N e a → ∃ c w' A',
    (execOp a.eval o).run P w = .ok (.value c) w' ∧ Inv R F A' H' w' ∧ VR R A' H' w' v c ∧ Stp H.length R F A H w R A' H' w' ∧ (∀ (i : Nat) (o : AO), H[i]? = some o → H'[i]? = some o ∧ A' i = A i) ∧ (∀ b, HB R A H b → w'.heap[b]? = w.heap[b]?)

theorem ANew.step' {o : Oper} {v : AV} {H' : List AO} (h : ANew P N o e H v H') : AStep P N o e H v H' := by
  intro R F A w a hi he
  obtain ⟨c, w', A', h1, h2, h3, h4, _⟩ := h R F A w a hi he
  exact ⟨c, w', A', .inl h1, h2, h3, h4⟩

theorem HB.lt {R F A} {w : World} (hi : Inv R F A H w) {b : Nat} (h : HB R A H b) : b < w.heap.size := by
  rcases h with h | ⟨i, o, h1, h2, h3⟩
  · exact hi.rlt b h
  · exact OInv.lt h2 (hi.obj i o h1) (.inl h3)

theorem push_old (o : AO) (A : Nat → Value) (c : Value) : ∀ (i : Nat) (o' : AO), H[i]? = some o' → (H ++ [o])[i]? = some o' ∧ (fun i => if i = H.length then c else A i) i = A i := by
  intro i o' h
  have hlt := (List.getElem?_eq_some_iff.1 h).1
  exact ⟨by rw [List.getElem?_append_left hlt]; exact h, if_neg (by omega)⟩

theorem AYield.nilCheck {o : Oper} {x : Operand} (ho : o.op = .nilCheck x) (hx : isP (ev e x) = true) : AYield P N o e H (ev e x) := by
  refine fun R F A w a hinv he => ⟨a.eval x, ?_, he.ev x⟩
  intro w
  have hv := he.ev x
  unfold execOp
  rw [ho]
  revert hv hx
  cases ev e x with
  | ptr id off => intro _ hv; simp only [VR] at hv; obtain ⟨_, _, _, h, _⟩ := hv; simp only [h]; rfl
  | optr id n off => intro _ hv; simp only [VR] at hv; obtain ⟨_, _, _, h, _⟩ := hv; simp only [h]; rfl
  | rptr cells => intro _ hv; simp only [VR] at hv; obtain ⟨_, _, h, _⟩ := hv; simp only [h]; rfl
  | _ => intro h; cases h
end

/-! ### values that lie in cells -/
def AV.one : AV → Bool
  | .lit v => v.oneCell'
  | .any | .agg _ | .tup _ => false
  | _ => true

def cellsA : AV → List AV
  | .agg cs => cs
  | v => [v]

def okc : AV → Bool
  | .agg cs => cs.all AV.one
  | v => v.one

section
variable {P : Program} {R F : Nat → Prop} {A : Nat → Value} {H : List AO} {w : World} {N : Nat} {e : Env}

theorem one_of {x : AV} {c : Value} (hv : VR R A H w x c) (h : x.one = true) : c.oneCell' = true ∧ c.cells = #[c] := by
  cases x with
  | lit v =>
    simp only [VR] at hv
    subst hv
    simp only [AV.one] at h
    exact ⟨h, by cases c <;> simp_all [Value.cells, Value.oneCell']⟩
  | row size n nn cells =>
    simp only [VR] at hv
    rcases hv with ⟨rfl, _⟩ | ⟨a, cap, vs, rfl, _⟩ <;> exact ⟨rfl, rfl⟩
  | rptr cells => simp only [VR] at hv; obtain ⟨a, vs, rfl, _⟩ := hv; exact ⟨rfl, rfl⟩
  | own id n => simp only [VR] at hv; obtain ⟨_, _, ⟨a, l, cap, rfl⟩, _⟩ := hv; exact ⟨rfl, rfl⟩
  | optr id n off => simp only [VR] at hv; obtain ⟨_, _, _, rfl, _⟩ := hv; exact ⟨rfl, rfl⟩
  | ptr id off => simp only [VR] at hv; obtain ⟨_, _, _, rfl, _⟩ := hv; exact ⟨rfl, rfl⟩
  | fn f caps => simp only [VR] at hv; obtain ⟨_, _, rfl⟩ := hv; exact ⟨rfl, rfl⟩
  | any => cases h
  | agg cs => cases h
  | tup cs => cases h

theorem ones_of : ∀ {xs : List AV} {vs : List Value}, VRs R A H w xs vs → xs.all AV.one = true → ∀ v ∈ vs, v.oneCell' = true
  | [], [], _, _, v, hv => by simp at hv
  | x :: xs, u :: vs, h, ho, v, hv => by
    simp only [VRs] at h
    simp only [List.all_cons, Bool.and_eq_true] at ho
    rcases List.mem_cons.1 hv with rfl | hv
    · exact (one_of h.1 ho.1).1
    · exact ones_of h.2 ho.2 v hv
  | [], _ :: _, h, _, _, _ => by simp [VRs] at h
  | _ :: _, [], h, _, _, _ => by simp [VRs] at h

theorem cells_of {x : AV} {c : Value} (hv : VR R A H w x c) (h : okc x = true) : VRs R A H w (cellsA x) c.cells.toList ∧ ∀ v ∈ c.cells.toList, v.oneCell' = true := by
  by_cases hx : ∃ cs, x = .agg cs
  · obtain ⟨cs, rfl⟩ := hx
    simp only [VR] at hv
    obtain ⟨vs, h1, rfl⟩ := hv
    exact ⟨by simpa [cellsA, Value.cells] using h1, by simpa [Value.cells] using ones_of h1 h⟩
  · have h1 : x.one = true := by cases x <;> simp_all [okc]
    have h2 := one_of hv h1
    have h3 : cellsA x = [x] := by cases x <;> simp_all [cellsA]
    rw [h3, h2.2]
    exact ⟨by simp only [VRs]; exact ⟨hv, trivial⟩, fun v hv => by simp at hv; subst hv; exact h2.1⟩

theorem setRow_same (w : World) (g : Nat) (cs : Array Value) (k : Nat) (h : k ≠ g) : (w.setRow g cs).heap[k]? = w.heap[k]? := setRow_other w g k cs h

theorem take_splice {α : Type} (xs ys : List α) (off k m : Nat) (hk : ys.length = k) (h : off + k ≤ m) (hm : m ≤ xs.length) :
    (xs.take off ++ ys ++ xs.drop (off + k)).take m = (xs.take m).take off ++ ys ++ (xs.take m).drop (off + k) := by
  subst hk
  have e1 : (xs.take m).take off = xs.take off := by rw [List.take_take]; congr 1; omega
  rw [e1, List.take_append, List.take_of_length_le (by simp only [List.length_append, List.length_take]; omega), List.drop_take]
  congr 2
  simp only [List.length_append, List.length_take]
  omega

/-- A store into a variable. -/
theorem AStep.storeB {o : Oper} {t et : TypeId} {x y : Operand} {i : TypeInfo} {id off : Nat} {cells : List AV} (ho : o.op = .store t x y) (hi : P.info? t = some i)
    (hx : ev e x = .ptr id off) (hH : H[id]? = some (.bx et cells)) (hok : okc (ev e y) = true) (hs : (cellsA (ev e y)).length = i.size) (hfit : off + i.size ≤ cells.length) :
    AStep P N o e H (.lit undef) (H.set id (.bx et (cells.take off ++ cellsA (ev e y) ++ cells.drop (off + i.size)))) := by
  intro R F A w a hinv he
  have hvx := he.ev x
  rw [hx] at hvx
  simp only [VR] at hvx
  obtain ⟨o1, g, h1, h4, h2⟩ := hvx
  rw [hH] at h1
  cases h1
  obtain ⟨_, h3⟩ := h2.resolve_left (by simp)
  obtain ⟨g', vs, h5, h6, h7⟩ := hinv.obj id _ hH
  rw [h3] at h5
  simp only [Value.pointer.injEq, Option.some.injEq, Addr.mk.injEq, and_true] at h5
  subst h5
  have hvy := cells_of (he.ev y) hok
  have hlen := hvy.1.length
  have hl2 := h7.length
  have hst := run_storeCells_at P g off et (a.eval y).cells.toList 0 vs.toArray w h6 (by simp only [Array.length_toList, Nat.add_zero, List.size_toArray] at *; omega) hvy.2
  simp only [Nat.add_zero] at hst
  generalize hw' : w.setRow g (vs.toArray.toList.take off ++ (a.eval y).cells.toList ++ vs.toArray.toList.drop (off + (a.eval y).cells.toList.length)).toArray = w' at hst
  have hbl : blk (A id) = some g := by rw [h3]; rfl
  have hpush := Inv.upd (w' := w') (c := A id) (o := .bx et (cells.take off ++ cellsA (ev e y) ++ cells.drop (off + i.size))) hinv hH (by simp) (by simp) rfl (Nat.le_refl _) (fun _ => rfl)
    (by rw [← hw']; simp) (fun b _ hb => by rw [← hw']; exact setRow_other w g b _ (fun e => hb (by rw [hbl, e]))) (by rw [← hw']; rfl) (by rw [← hw']; rfl) (by rw [← hw']; rfl)
    (fun b hb => .inr hb) (fun hst' => by
      refine ⟨g, _, h3, ?_, ((hst'.vrs (h7.take off)).append (hst'.vrs hvy.1)).append (hst'.vrs (h7.drop (off + i.size)))⟩
      rw [← hw', setRow_heap w g vs.toArray _ et (0, 0) h6]
      have : (a.eval y).cells.toList.length = i.size := by omega
      rw [this])
  have hA : (fun j => if j = id then A id else A j) = A := by
    funext j
    by_cases hj : j = id
    · rw [if_pos hj, hj]
    · rw [if_neg hj]
  rw [hA] at hpush
  refine ⟨undef, w', A, .inr ⟨rfl, ?_⟩, hpush.1, by simp [VR], hpush.2⟩
  unfold execOp
  rw [ho]
  have hsz : (a.eval y).cells.size = i.size := by rw [← Array.length_toList]; omega
  simp only [h4, Instr.storeAt, Instr.sureAddr, storeVar, sizeOf, typeInfo, Sem.run_bind, Sem.run_pure, Result.andThen_ok, run_program, hi, hsz, ne_eq, not_true_eq_false, if_false, hst]

/-- A store into a row. -/
theorem AStep.storeS {o : Oper} {t et : TypeId} {x y : Operand} {i : TypeInfo} {id off n m size : Nat} {nn : Bool} {cells : List AV} (ho : o.op = .store t x y) (hi : P.info? t = some i)
    (hx : ev e x = .optr id n off) (hH : H[id]? = some (.sl et size m nn cells)) (hn : n = m) (hok : okc (ev e y) = true) (hs : (cellsA (ev e y)).length = i.size) (hfit : off + i.size ≤ cells.length) :
    AStep P N o e H (.lit undef) (H.set id (.sl et size m nn (cells.take off ++ cellsA (ev e y) ++ cells.drop (off + i.size)))) := by
  subst hn
  intro R F A w a hinv he
  have hvx := he.ev x
  rw [hx] at hvx
  simp only [VR] at hvx
  obtain ⟨o1, g, h1, h4, h2⟩ := hvx
  rw [hH] at h1
  cases h1
  obtain ⟨l, cap, h3⟩ := (h2.resolve_left (by simp)).2.2 rfl
  obtain ⟨vs, h5, h7, h8⟩ := hinv.obj id _ hH
  rw [h3] at h5
  have hvy := cells_of (he.ev y) hok
  have hlen := hvy.1.length
  have hl2 := h7.length
  have hrow := h5
  rcases h5.2 with ⟨h6, _⟩ | ⟨g', cap', cur, h6, hb, hg, hnc, hcm, hcs, htake⟩
  · simp at h6
  simp only [Value.slice.injEq, Option.some.injEq, Addr.mk.injEq, and_true] at h6
  obtain ⟨rfl, rfl, rfl⟩ := h6
  have hvl : vs.length = l * size := h5.1
  have hcl : l * size ≤ cap * size := Nat.mul_le_mul_right _ hnc
  have hst := run_storeCells_at P g off et (a.eval y).cells.toList 0 cur w hg (by simp only [Nat.add_zero]; omega) hvy.2
  simp only [Nat.add_zero] at hst
  generalize hw' : w.setRow g (cur.toList.take off ++ (a.eval y).cells.toList ++ cur.toList.drop (off + (a.eval y).cells.toList.length)).toArray = w' at hst
  have hbl : blk (A id) = some g := by rw [h3]; rfl
  have hyl : (a.eval y).cells.toList.length = i.size := by omega
  have hyl' : (a.eval y).cells.size = i.size := by rw [← Array.length_toList]; exact hyl
  have hpush := Inv.upd (w' := w') (c := A id) (o := .sl et size l nn (cells.take off ++ cellsA (ev e y) ++ cells.drop (off + i.size))) hinv hH (by simp) (by simp) rfl (Nat.le_refl _) (fun _ => rfl)
    (by rw [← hw']; simp) (fun b _ hb => by rw [← hw']; exact setRow_other w g b _ (fun e => hb (by rw [hbl, e]))) (by rw [← hw']; rfl) (by rw [← hw']; rfl) (by rw [← hw']; rfl)
    (fun b hb => .inr hb) (fun hst' => by
      refine ⟨_, ?_, ((hst'.vrs (h7.take off)).append (hst'.vrs hvy.1)).append (hst'.vrs (h7.drop (off + i.size))), h8⟩
      rw [h3]
      refine ⟨by simp only [List.length_append, List.length_take, List.length_drop]; omega, .inr ⟨g, cap, (cur.toList.take off ++ (a.eval y).cells.toList ++ cur.toList.drop (off + (a.eval y).cells.toList.length)).toArray, rfl, hb, ?_, hnc, hcm, ?_, ?_⟩⟩
      · rw [← hw']; exact setRow_heap w g cur _ et (0, 0) hg
      · simp only [List.size_toArray, List.length_append, List.length_take, List.length_drop, Array.length_toList, hyl']; omega
      · rw [hyl, ← htake]
        exact take_splice _ _ _ _ _ hyl (by omega) (by simp only [Array.length_toList]; omega))
  have hA : (fun j => if j = id then A id else A j) = A := by
    funext j
    by_cases hj : j = id
    · rw [if_pos hj, hj]
    · rw [if_neg hj]
  rw [hA] at hpush
  refine ⟨undef, w', A, .inr ⟨rfl, ?_⟩, hpush.1, by simp [VR], hpush.2⟩
  unfold execOp
  rw [ho]
  have hsz : (a.eval y).cells.size = i.size := by rw [← Array.length_toList]; omega
  simp only [h4, Instr.storeAt, Instr.sureAddr, storeVar, sizeOf, typeInfo, Sem.run_bind, Sem.run_pure, Result.andThen_ok, run_program, hi, hsz, ne_eq, not_true_eq_false, if_false, hst]

/-- A new variable. -/
theorem ANew.box {o : Oper} {t : TypeId} {x : Operand} (ho : o.op = .box t x) (hok : okc (ev e x) = true)   : ANew P N o e H (.ptr H.length 0) (H ++ [.bx t (cellsA (ev e x))]) := by
  intro R F A w a hinv he
  have hvx := cells_of (he.ev x) hok
  have hpush := Inv.push (w' := w.alloc (.cells (a.eval x).cells t)) (c := .pointer (some ⟨w.heap.size, 0, none⟩)) (o := .bx t (cellsA (ev e x))) hinv (by simp) (by simp)
    (fun b hb => alloc_old w _ b hb) rfl rfl rfl (fun b hb => by simp only [blk, Option.some.injEq] at hb; omega)
    (fun hst => ⟨w.heap.size, (a.eval x).cells.toList, rfl, by rw [heap_alloc_new], hst.vrs hvx.1⟩)
  refine ⟨.pointer (some ⟨w.heap.size, 0, none⟩), _, _, ?_, hpush.1, ?_, hpush.2, push_old _ _ _, fun b hb => alloc_old w _ b (HB.lt hinv hb)⟩
  · unfold execOp
    rw [ho]
    simp only [Instr.box, newVar, newRow, Sem.run_bind, Sem.run_pure, Result.andThen_ok, run_newObj]
    rfl
  · simp only [VR]
    exact ⟨.bx t (cellsA (ev e x)), w.heap.size, by simp, rfl, .inr ⟨rfl, by simp⟩⟩

theorem VRs.lits : ∀ (vs : List Value), VRs R A H w (vs.map .lit) vs
  | [] => by simp [VRs]
  | v :: vs => by simp only [List.map_cons, VRs, VR]; exact ⟨trivial, VRs.lits vs⟩

theorem ANew.alloc {o : Oper} {t : TypeId} {i : TypeInfo} {z : Value} (ho : o.op = .alloc t) (hi : P.info? t = some i) (hz : i.zero = some z) :
    ANew P N o e H (.ptr H.length 0) (H ++ [.bx t (z.cells.toList.map .lit)]) := by
  intro R F A w a hinv he
  have hpush := Inv.push (w' := w.alloc (.cells z.cells t)) (c := .pointer (some ⟨w.heap.size, 0, none⟩)) (o := .bx t (z.cells.toList.map .lit)) hinv (by simp) (by simp)
    (fun b hb => alloc_old w _ b hb) rfl rfl rfl (fun b hb => by simp only [blk, Option.some.injEq] at hb; omega)
    (fun hst => ⟨w.heap.size, z.cells.toList, rfl, by rw [heap_alloc_new], VRs.lits _⟩)
  refine ⟨.pointer (some ⟨w.heap.size, 0, none⟩), _, _, ?_, hpush.1, ?_, hpush.2, push_old _ _ _, fun b hb => alloc_old w _ b (HB.lt hinv hb)⟩
  · unfold execOp
    rw [ho]
    simp only [Instr.alloc, zeroValue, typeInfo, hi, hz, newVar, newRow, Sem.run_bind, Sem.run_pure, Result.andThen_ok, run_newObj, run_program]
    rfl
  · simp only [VR]
    exact ⟨.bx t (z.cells.toList.map .lit), w.heap.size, by simp, rfl, .inr ⟨rfl, by simp⟩⟩
end
section
variable {P : Program} {R F : Nat → Prop} {A : Nat → Value} {H : List AO} {w : World} {N : Nat} {e : Env}

theorem addr_eta {p : Addr} (h : p.spot = none) : p = ⟨p.block, p.off, none⟩ := by cases p; cases h; rfl

def shiftA (d : Nat) : AV → AV
  | .ptr id off => .ptr id (off + d)
  | .optr id n off => .optr id n (off + d)
  | .rptr cells => .rptr (cells.drop d)
  | _ => .any

theorem shift_sound {x : AV} {c : Value} {d : Nat} (hv : VR R A H w x c) (hx : isP x = true) :
    ∃ p, c = .pointer (some p) ∧ VR R A H w (shiftA d x) (.pointer (some (p.add d))) := by
  cases x with
  | ptr id off =>
    simp only [VR] at hv
    obtain ⟨o, g, h1, rfl, h2⟩ := hv
    refine ⟨_, rfl, ?_⟩
    simp only [shiftA, VR]
    exact ⟨o, g, h1, by rw [Addr.add_mid], h2⟩
  | optr id n off =>
    simp only [VR] at hv
    obtain ⟨o, g, h1, rfl, h2⟩ := hv
    refine ⟨_, rfl, ?_⟩
    simp only [shiftA, VR]
    exact ⟨o, g, h1, by rw [Addr.add_mid], h2⟩
  | rptr cells =>
    simp only [VR] at hv
    obtain ⟨p, vs, rfl, h2, h3, h4, h5⟩ := hv
    refine ⟨_, rfl, ?_⟩
    simp only [shiftA, VR]
    have hp : p = ⟨p.block, p.off, none⟩ := addr_eta (by assumption)
    rw [hp, Addr.add_mid]
    refine ⟨_, vs.drop d, rfl, h2, rfl, h4.drop d, ?_⟩
    intro j u hu
    rw [List.getElem?_drop] at hu
    have := h5 _ _ hu
    rw [hp, Addr.add_mid] at this
    rw [Addr.add_mid, Nat.add_assoc]
    exact this
  | _ => cases hx

theorem AYield.fieldAddr {o : Oper} {s : TypeId} {x : Operand} {f : Nat} {fields : Array Field} {fd : Field} {i : TypeInfo} (ho : o.op = .fieldAddr s x f)
    (hu : P.underlying s = some (.struct fields)) (hf : fields[f]? = some fd) (hi : P.info? fd.type = some i) (hz : i.size ≠ 0)
    (hx : isP (ev e x) = true) : AYield P N o e H (shiftA fd.offset (ev e x)) := by
  refine fun R F A w a hinv he => ?_
  obtain ⟨p, h1, h2⟩ := shift_sound (d := fd.offset) (he.ev x) hx
  refine ⟨_, ?_, h2⟩
  intro w
  unfold execOp
  rw [ho]
  simp only [h1, Instr.fieldAt, run_underlying hu, hf, Instr.sureAddr, fieldPlace, sizeOf, typeInfo, hi, hz, Sem.run_bind, Sem.run_pure, Result.andThen_ok, run_program, if_false]

theorem AYield.field1 {o : Oper} {s : TypeId} {x : Operand} {f : Nat} {fields : Array Field} {fd : Field} {d : TypeDesc} {cs : List AV} {v : AV} (ho : o.op = .field s x f)
    (hu : P.underlying s = some (.struct fields)) (hf : fields[f]? = some fd) (hd : P.underlying fd.type = some d) (hr : d.isRow = false)
    (hx : ev e x = .agg cs) (hv : cs[fd.offset]? = some v) : AYield P N o e H v := by
  refine fun R F A w a hinv he => ?_
  have h1 := he.ev x
  rw [hx] at h1
  simp only [VR] at h1
  obtain ⟨vs, h2, h3⟩ := h1
  obtain ⟨c, h4, h5⟩ := h2.get _ v hv
  refine ⟨c, ?_, h5⟩
  intro w
  have hagg : (isAgg fd.type).run P w = .ok false w := by
    unfold isAgg
    rw [Sem.run_bind, run_underlying hd w]
    cases d <;> simp_all [TypeDesc.isRow]
  unfold execOp
  rw [ho]
  simp only [h3, Instr.field, run_underlying hu, hf, asAgg, part, hagg, Sem.run_bind, Sem.run_pure, Result.andThen_ok, Bool.false_eq_true, if_false, List.getElem?_toArray, h4]

theorem AYield.fieldN {o : Oper} {s : TypeId} {x : Operand} {f : Nat} {fields : Array Field} {fd : Field} {d : TypeDesc} {i : TypeInfo} {cs : List AV} (ho : o.op = .field s x f)
    (hu : P.underlying s = some (.struct fields)) (hf : fields[f]? = some fd) (hd : P.underlying fd.type = some d) (hr : d.isRow = true) (hi : P.info? fd.type = some i)
    (hx : ev e x = .agg cs) : AYield P N o e H (.agg ((cs.drop fd.offset).take i.size)) := by
  refine fun R F A w a hinv he => ?_
  have h1 := he.ev x
  rw [hx] at h1
  simp only [VR] at h1
  obtain ⟨vs, h2, h3⟩ := h1
  refine ⟨.agg ((vs.drop fd.offset).take i.size).toArray, ?_, by simp only [VR]; exact ⟨_, (h2.drop _).take _, rfl⟩⟩
  intro w
  have hagg : (isAgg fd.type).run P w = .ok true w := by
    unfold isAgg
    rw [Sem.run_bind, run_underlying hd w]
    cases d <;> simp_all [TypeDesc.isRow]
  unfold execOp
  rw [ho]
  simp only [h3, Instr.field, run_underlying hu, hf, asAgg, part, hagg, Sem.run_bind, Sem.run_pure, Result.andThen_ok, if_true, sizeOf, typeInfo, run_program, hi]
  congr 3
  simp [List.extract_toArray, List.extract_eq_take_drop]

/-- An element's place, in a row that the walk may write. -/
theorem AYield.indexOwn {o : Oper} {t el et : TypeId} {x ix : Operand} {i : TypeInfo} {id n m size : Nat} {nn : Bool} {cells : List AV} {k : IntKind} {q : Int} (ho : o.op = .indexAddr t x ix)
    (hu : P.underlying t = some (.slice el)) (hi : P.info? el = some i) (hx : ev e x = .own id n) (hH : H[id]? = some (.sl et size m nn cells)) (hn : n = m)
    (hq : ev e ix = .lit (.int k q)) (h0 : 0 ≤ q) (h1 : q < n) : AYield P N o e H (.optr id n (q.toNat * i.size)) := by
  subst hn
  intro R F A w a hinv he
  have hvx := he.ev x
  have hvq := he.ev ix
  rw [hx] at hvx
  rw [hq] at hvq
  simp only [VR] at hvx hvq
  obtain ⟨o1, h2, _, h6⟩ := hvx
  rw [hH] at h2
  cases h2
  have h6 := (h6.resolve_left (by simp)).2.2 rfl
  obtain ⟨vs, h7, h8, h9⟩ := hinv.obj id _ hH
  rcases h7.2 with ⟨h10, h11⟩ | ⟨g, cap, cur, h10, _⟩
  · omega
  refine ⟨.pointer (some ⟨g, q.toNat * i.size, none⟩), ?_, ?_⟩
  · intro w; unfold execOp
    rw [ho]
    simp only [h6, h10, hvq, Instr.indexAt, asIntOf, run_underlying hu, Sem.run_bind, Sem.run_pure, Result.andThen_ok, sizeOf, typeInfo, hi, run_program]
    rw [if_pos ⟨h0, h1⟩]
    simp only [Sem.run_bind, Sem.run_pure, Result.andThen_ok, run_program, hi, Addr.add_mid, Nat.zero_add]
  · simp only [VR]
    exact ⟨_, g, hH, rfl, .inr ⟨rfl, Nat.le_refl _, fun _ => ⟨n, cap, h10⟩⟩⟩

/-- An element's place, in a row that is only read. -/
theorem AYield.indexRow {o : Oper} {t el : TypeId} {x ix : Operand} {i : TypeInfo} {n size : Nat} {nn : Bool} {cells : List AV} {k : IntKind} {q : Int} (ho : o.op = .indexAddr t x ix)
    (hu : P.underlying t = some (.slice el)) (hi : P.info? el = some i) (hx : ev e x = .row size n nn cells)
    (hq : ev e ix = .lit (.int k q)) (h0 : 0 ≤ q) (h1 : q < n) : AYield P N o e H (.rptr (cells.drop (q.toNat * i.size))) := by
  refine fun R F A w a hinv he => ?_
  have hvx := he.ev x
  have hvq := he.ev ix
  rw [hx] at hvx
  rw [hq] at hvq
  simp only [VR] at hvx hvq
  rcases hvx with ⟨_, h2, _⟩ | ⟨p, cap, vs, h2, h34, h5, h6, h7, h8⟩
  · omega
  obtain ⟨h3, h4⟩ := h34 (by omega)
  have hp : p = ⟨p.block, p.off, none⟩ := addr_eta (by assumption)
  refine ⟨.pointer (some ⟨p.block, p.off + q.toNat * i.size, none⟩), ?_, ?_⟩
  · intro w; unfold execOp
    rw [ho]
    simp only [h2, hvq, Instr.indexAt, asIntOf, run_underlying hu, Sem.run_bind, Sem.run_pure, Result.andThen_ok, sizeOf, typeInfo, hi, run_program]
    rw [if_pos ⟨h0, h1⟩]
    rw [hp]
    simp only [Sem.run_bind, Sem.run_pure, Result.andThen_ok, run_program, hi, Addr.add_mid]
  · simp only [VR]
    refine ⟨_, vs.drop (q.toNat * i.size), rfl, h3, rfl, h7.drop _, ?_⟩
    intro j u hu'
    rw [List.getElem?_drop] at hu'
    have := h8 _ _ hu'
    rw [hp, Addr.add_mid] at this
    rw [Addr.add_mid, Nat.add_assoc]
    exact this


theorem AYield.indexStr {o : Oper} {t : TypeId} {x ix : Operand} {k : IntKind} {q : Int} {s : ByteArray} (ho : o.op = .index t x ix)
    (hu : P.underlying t = some .string) (hx : ev e x = .lit (.string s)) (hq : ev e ix = .lit (.int k q)) (h0 : 0 ≤ q) (h1 : q < s.size) : AYield P N o e H (.lit (.int .u8 (bt s q))) := by
  refine fun R F A w a hinv he => ?_
  have hvx := he.ev x
  have hvq := he.ev ix
  rw [hx] at hvx
  rw [hq] at hvq
  simp only [VR] at hvx hvq
  have hlt : q.toNat < s.size := by omega
  refine ⟨.int .u8 (bt s q), ?_, by simp only [VR]⟩
  intro w
  unfold execOp
  rw [ho]
  have hg : s[q.toNat]? = some (s[q.toNat]'hlt) := getElem?_pos s q.toNat hlt
  simp only [hvx, hvq, Instr.index, asIntOf, run_underlying hu, Sem.run_bind, Sem.run_pure, Result.andThen_ok, if_pos h0, hg, bt, dif_pos hlt]

/-! ### numbers -/

/-- An operation on two values of one cell: what has to hold, and what comes. -/
def binV (op : BinOp) : Value → Value → Option (Prop × Value)
  | .int k x, .int k' y =>
    match op with
    | .shl => some (0 ≤ y, .int k (shl k x y))
    | .shr => some (0 ≤ y, .int k (shr k x y))
    | .add => if k = k' then some (True, .int k (k.wrap (x + y))) else none
    | .sub => if k = k' then some (True, .int k (k.wrap (x - y))) else none
    | .mul => if k = k' then some (True, .int k (k.wrap (x * y))) else none
    | .quo => if k = k' then some (y ≠ 0, .int k (k.wrap (x.tdiv y))) else none
    | .rem => if k = k' then some (y ≠ 0, .int k (x.tmod y)) else none
    | .and => if k = k' then some (True, .int k (Go.bits .and k x y)) else none
    | .or => if k = k' then some (True, .int k (Go.bits .or k x y)) else none
    | .xor => if k = k' then some (True, .int k (Go.bits .xor k x y)) else none
    | .andNot => if k = k' then some (True, .int k (Go.bits .andNot k x y)) else none
    | .eql => if k = k' then some (True, .bool (x == y)) else none
    | .neq => if k = k' then some (True, .bool (x != y)) else none
    | .lss => if k = k' then some (True, .bool (decide (x < y))) else none
    | .leq => if k = k' then some (True, .bool (decide (x ≤ y))) else none
    | .gtr => if k = k' then some (True, .bool (decide (x > y))) else none
    | .geq => if k = k' then some (True, .bool (decide (x ≥ y))) else none
  | .string x, .string y =>
    match op with
    | .add => some (x.size + y.size ≤ 9223372036854775807, .string (x ++ y))
    | .eql => some (True, .bool (x.toList == y.toList))
    | .neq => some (True, .bool (!(x.toList == y.toList)))
    | .lss => some (True, .bool (Op.bytesLess x.toList y.toList))
    | .leq => some (True, .bool (Op.bytesLess x.toList y.toList || x.toList == y.toList))
    | .gtr => some (True, .bool (!(Op.bytesLess x.toList y.toList || x.toList == y.toList)))
    | .geq => some (True, .bool (!(Op.bytesLess x.toList y.toList)))
    | _ => none
  | _, _ => none

theorem fdiv_shr (k : IntKind) (x y : Int) : x.fdiv (2 ^ min y.toNat k.bits) = shr k x y := by
  unfold shr
  exact Int.fdiv_eq_ediv_of_nonneg _ (Int.pow_nonneg (by decide))

theorem binV_sound {op : BinOp} {t : TypeId} {x y v : Value} {q : Prop} (h : binV op x y = some (q, v)) (hq : q) (w : World) : (binOp op t x y).run P w = .ok v w := by
  cases x <;> cases y <;> simp only [binV] at h <;> try (cases h; done)
  · cases op <;> simp only [] at h
    all_goals first
      | (split at h
         · rename_i hk
           subst hk
           simp only [Option.some.injEq, Prod.mk.injEq] at h
           obtain ⟨rfl, rfl⟩ := h
           simp_all [binOp, Op.intArith, Op.intDiv, Op.intBits, Op.intCmp, Go.bits]
         · cases h)
      | (simp only [Option.some.injEq, Prod.mk.injEq] at h
         obtain ⟨rfl, rfl⟩ := h
         have hn : ¬ (_ : Int) < 0 := Int.not_lt.2 hq
         simp only [binOp, Op.shift, if_neg hn, Sem.run_pure, fdiv_shr, shl])
  · cases op <;> simp only [] at h <;> try (cases h; done)
    all_goals
      simp only [Option.some.injEq, Prod.mk.injEq] at h
      obtain ⟨rfl, rfl⟩ := h
      first
        | (simp only [binOp, Op.stringOp, Sem.run_pure]; done)
        | (simp only [binOp, Op.stringOp, IntKind.max, IntKind.signed, IntKind.bits, if_true]
           rw [if_neg (by omega)]
           rfl)
end
section
variable {P : Program} {R F : Nat → Prop} {A : Nat → Value} {H : List AO} {w : World} {N : Nat} {e : Env}

theorem AYield.bin {o : Oper} {op : BinOp} {t yt : TypeId} {x y : Operand} {vx vy v : Value} {q : Prop} (ho : o.op = .binOp op t x y yt) (hx : ev e x = .lit vx) (hy : ev e y = .lit vy)
    (h : binV op vx vy = some (q, v)) (hq : q) : AYield P N o e H (.lit v) := by
  refine fun R F A w a hinv he => ?_
  have hvx := he.ev x
  have hvy := he.ev y
  rw [hx] at hvx
  rw [hy] at hvy
  simp only [VR] at hvx hvy
  refine ⟨v, ?_, by simp only [VR]⟩
  intro w
  have hr := binV_sound (P := P) (t := t) h hq w
  have hg : (eqGuard op t x y vx vy).run P w = .ok () w := by
    clear hr he hvx hvy hx hy
    cases vx <;> cases vy <;> first
      | (simp only [binV] at h; cases h; done)
      | (cases op <;> rfl)
  unfold execOp
  rw [ho]
  simp only [hvx, hvy, Sem.run_bind, hg, Result.andThen_ok, hr, Sem.run_pure]

theorem AYield.un {o : Oper} {t : TypeId} {x : Operand} {b : Bool} (ho : o.op = .unOp .not t x) (hx : ev e x = .lit (.bool b)) : AYield P N o e H (.lit (.bool !b)) := by
  refine fun R F A w a hinv he => ?_
  have hvx := he.ev x
  rw [hx] at hvx
  simp only [VR] at hvx
  refine ⟨.bool !b, ?_, by simp only [VR]⟩
  intro w
  unfold execOp
  rw [ho]
  simp only [hvx, Op.unary, Sem.run_bind, Sem.run_pure, Result.andThen_ok]

theorem AYield.neg {o : Oper} {t : TypeId} {x : Operand} {k : IntKind} {n : Int} (ho : o.op = .unOp .neg t x) (hx : ev e x = .lit (.int k n)) : AYield P N o e H (.lit (.int k (k.wrap (0 - n)))) := by
  refine fun R F A w a hinv he => ?_
  have hvx := he.ev x
  rw [hx] at hvx
  simp only [VR] at hvx
  refine ⟨.int k (k.wrap (0 - n)), ?_, by simp only [VR]⟩
  intro w
  unfold execOp
  rw [ho]
  simp only [hvx, Op.unary, Op.intArith, Sem.run_bind, Sem.run_pure, Result.andThen_ok]

theorem AYield.conv {o : Oper} {s t us : TypeId} {x : Operand} {k k' : IntKind} {d : TypeDesc} {n : Int} (ho : o.op = .convert s t x) (hs : P.underlying s = some d) (ht : P.underlying t = some (.int k'))
    (hx : ev e x = .lit (.int k n)) : AYield P N o e H (.lit (.int k' (k'.wrap n))) := by
  refine fun R F A w a hinv he => ?_
  have hvx := he.ev x
  rw [hx] at hvx
  simp only [VR] at hvx
  refine ⟨.int k' (k'.wrap n), ?_, by simp only [VR]⟩
  intro w
  unfold execOp
  rw [ho]
  simp only [hvx, convert, run_underlying hs, run_underlying ht, Conv.intToInt, Sem.run_bind, Sem.run_pure, Result.andThen_ok]

theorem AYield.convStr {o : Oper} {s t : TypeId} {x : Operand} {k : IntKind} {d : TypeDesc} {n : Int} (ho : o.op = .convert s t x) (hs : P.underlying s = some (.int k)) (ht : P.underlying t = some .string)
    (hx : ev e x = .lit (.int k n)) : AYield P N o e H (.lit (.string (Utf8.encode n))) := by
  refine fun R F A w a hinv he => ?_
  have hvx := he.ev x
  rw [hx] at hvx
  simp only [VR] at hvx
  refine ⟨.string (Utf8.encode n), ?_, by simp only [VR]⟩
  intro w
  unfold execOp
  rw [ho]
  simp only [hvx, convert, run_underlying hs, run_underlying ht, Conv.intToString, Sem.run_bind, Sem.run_pure, Result.andThen_ok]

theorem AYield.pick {o : Oper} {x y z : Operand} {b : Bool} (ho : o.op = .pick x y z) (hx : ev e x = .lit (.bool b)) : AYield P N o e H (if b then ev e y else ev e z) := by
  refine fun R F A w a hinv he => ?_
  have hvx := he.ev x
  rw [hx] at hvx
  simp only [VR] at hvx
  refine ⟨if b then a.eval y else a.eval z, ?_, by cases b; exact he.ev z; exact he.ev y⟩
  intro w
  unfold execOp
  rw [ho]
  cases b <;> simp [hvx, asBool]

theorem AYield.extract {o : Oper} {x : Operand} {j : Nat} {cs : List AV} {v : AV} (ho : o.op = .extract x j) (hx : ev e x = .tup cs) (hj : cs[j]? = some v) : AYield P N o e H v := by
  refine fun R F A w a hinv he => ?_
  have hvx := he.ev x
  rw [hx] at hvx
  simp only [VR] at hvx
  obtain ⟨vs, h1, h2⟩ := hvx
  obtain ⟨c, h3, h4⟩ := h1.get j v hj
  refine ⟨c, ?_, h4⟩
  intro w
  unfold execOp
  rw [ho]
  simp only [h2, Instr.extract, List.getElem?_toArray, h3, Sem.run_bind, Sem.run_pure, Result.andThen_ok]

theorem evs_ok {R A w a} (he : EnvOk R A H w N e a) : ∀ xs : List Operand, VRs R A H w (xs.map (ev e)) (xs.map a.eval)
  | [] => by simp [VRs]
  | x :: xs => by simp only [List.map_cons, VRs]; exact ⟨he.ev x, evs_ok he xs⟩

theorem AYield.makeFunc {o : Oper} {f : FuncId} {cs : List Operand} (ho : o.op = .makeFunc (.func f) #[] cs.toArray) : AYield P N o e H (.fn f (cs.map (ev e))) := by
  refine fun R F A w a hi he => ⟨.func (.func f) #[] (cs.map a.eval).toArray, fun w => ?_, by simp only [VR]; exact ⟨_, evs_ok he cs, rfl⟩⟩
  unfold execOp
  rw [ho]
  simp [Instr.makeFunc]

/-! ### rows -/
/-- What a row holds: how many elements, and their cells. -/
def rowOf (H : List AO) : AV → Option (Nat × List AV)
  | .own id n => match H[id]? with
    | some (.sl _ _ m _ cells) => if n = m then some (n, cells) else none
    | _ => none
  | .row _ n _ cells => some (n, cells)
  | .lit (.slice none 0 0) => some (0, [])
  | _ => none

/-- A row as it lies there. -/
theorem row_sound (hi : Inv R F A H w) {x : AV} {c : Value} (hv : VR R A H w x c) {n : Nat} {cs : List AV} (hm : rowOf H x = some (n, cs)) :
    (c = .slice none 0 0 ∧ n = 0 ∧ cs = []) ∨ ∃ a cap vs, c = .slice (some a) n cap ∧ (0 < n → a.spot = none) ∧ n ≤ cap ∧ VRs R A H w cs vs ∧ ∀ j u, vs[j]? = some u → w.cell? (a.add j) = some u := by
  cases x with
  | own id m =>
    simp only [VR] at hv
    obtain ⟨o, h1, _, h4⟩ := hv
    have hob := hi.obj id o h1
    simp only [rowOf, h1] at hm
    cases o with
    | bx t cells => simp at hm
    | dp => simp at hm
    | nil => simp at hm
    | gone => simp at hm
    | sl t size l nn cells =>
      simp only at hm
      split at hm
      · rename_i hml
        simp only [Option.some.injEq, Prod.mk.injEq] at hm
        obtain ⟨rfl, rfl⟩ := hm
        have h4' := (h4.resolve_left (by simp)).2.2 hml
        subst hml
        obtain ⟨vs, h6, h7, h8⟩ := hob
        rw [← h4'] at h6
        rcases h6.2 with ⟨rfl, rfl⟩ | ⟨g, cap, cur, rfl, hb, hg, hnc, _⟩
        · have hv0 : vs = [] := List.eq_nil_of_length_eq_zero (by simpa using h6.1)
          subst hv0
          have := h7.length
          exact .inl ⟨rfl, rfl, List.eq_nil_of_length_eq_zero (by simpa using this)⟩
        · exact .inr ⟨_, cap, vs, rfl, fun _ => rfl, hnc, h7, cells_slice (n := m) (m := 0) h6⟩
      · cases hm
  | row size m nn cells =>
    simp only [rowOf, Option.some.injEq, Prod.mk.injEq] at hm
    obtain ⟨rfl, rfl⟩ := hm
    simp only [VR] at hv
    rcases hv with ⟨h1, h2, h3, _⟩ | ⟨p, cap, vs, h2, h34, h5, h6, h7, h8⟩
    · exact .inl ⟨h1, h2, h3⟩
    · exact .inr ⟨p, cap, vs, h2, fun z => (h34 z).2, h5, h7, h8⟩
  | lit v =>
    simp only [VR] at hv
    subst hv
    unfold rowOf at hm
    split at hm <;> simp_all
  | _ => simp [rowOf] at hm

theorem AYield.lenRow {o : Oper} {t el : TypeId} {x : Operand} {n : Nat} {cs : List AV} (ho : o.op = .call { callee := .builtin .len, args := #[x], argTypes := #[t] })
    (hu : P.underlying t = some (.slice el)) (hx : rowOf H (ev e x) = some (n, cs)) : AYield P N o e H (.lit (.int .i64 n)) := by
  intro R F A w a hi he
  have := row_sound hi (he.ev x) hx
  refine ⟨.int .i64 n, ?_, by simp only [VR]⟩
  intro w
  unfold execOp
  rw [ho]
  rcases this with ⟨h1, h2, _⟩ | ⟨p, cap, vs, h1, _⟩
  · subst h2
    simp [resolve, invoke, builtin, h1, Builtin.len_, run_underlying hu, goInt]
  · simp [resolve, invoke, builtin, h1, Builtin.len_, run_underlying hu, goInt]

theorem AYield.lenStr {o : Oper} {t : TypeId} {x : Operand} {s : ByteArray} (ho : o.op = .call { callee := .builtin .len, args := #[x], argTypes := #[t] })
    (hu : P.underlying t = some .string) (hx : ev e x = .lit (.string s)) : AYield P N o e H (.lit (.int .i64 s.size)) := by
  intro R F A w a hi he
  refine ⟨.int .i64 s.size, ?_, by simp only [VR]⟩
  intro w
  have h1 := he.ev x
  rw [hx] at h1
  simp only [VR] at h1
  unfold execOp
  rw [ho]
  simp [resolve, invoke, builtin, h1, Builtin.len_, run_underlying hu, goInt]

/-- A step that changes one object alone. -/
def AUpd (P : Program) (N : Nat) (o : Oper) (e : Env) (H : List AO) (id : Nat) (v : AV) (H' : List AO) : Prop :=
  ∀ R F A w a, Inv R F A H w → EnvOk R A H w N e a → ∃ c w' A',
    (execOp a.eval o).run P w = .ok (.value c) w' ∧ Inv R F A' H' w' ∧ VR R A' H' w' v c ∧ Stp H.length R F A H w R A' H' w' ∧ (∀ (i : Nat) (o : AO), i ≠ id → H[i]? = some o → H'[i]? = some o ∧ A' i = A i) ∧ (∀ b, b < w.heap.size → blk (A id) ≠ some b → w'.heap[b]? = w.heap[b]?)
theorem AUpd.step {o : Oper} {id : Nat} {v : AV} {H' : List AO} (h : AUpd P N o e H id v H') : AStep P N o e H v H' := by
  intro R F A w a hi he
  obtain ⟨c, w', A', h1, h2, h3, h4, _⟩ := h R F A w a hi he
  exact ⟨c, w', A', .inl h1, h2, h3, h4⟩
/-- What append comes to, on a row that is owned. -/
theorem append_run {t tyo el : TypeId} {i : TypeInfo} {z : Value} {n m size : Nat} {news : List AV} {cA cx : Value} {vs : List Value} (hu : P.underlying t = some (.slice el)) (hi : P.info? el = some i) (hz : i.zero = some z)
    (hsz : i.size = size) (hzs : z.cells.size = size) (hpos : 0 < size) (h3 : w.ownsRow 0 el size cA n vs)
    (hrow : (cx = .slice none 0 0 ∧ m = 0 ∧ news = []) ∨ ∃ a cap vs, cx = .slice (some a) m cap ∧ (0 < m → a.spot = none) ∧ m ≤ cap ∧ VRs R A H w news vs ∧ ∀ j u, vs[j]? = some u → w.cell? (a.add j) = some u) (hone : news.all AV.one = true)
    (hb : (n + m) * i.bytes ≤ 140737488355328) (hml : n + m ≤ maxLen) (hl : news.length = m * size) :
    ∃ v' w' us, (Builtin.append_ #[t, t] tyo #[cA, cx]).run P w = .ok v' w' ∧ w'.ownsRow 0 el size v' (n + m) (vs ++ us) ∧ w.grownBy w' (cA).ownBlock ∧
      (v' = .slice none 0 0 ↔ cA = .slice none 0 0 ∧ m = 0) ∧ VRs R A H w news us ∧ (m = 0 → v' = cA) ∧ (∀ b, blk v' = some b → w.heap.size ≤ b ∨ blk (cA) = some b) := by
  rcases hrow with ⟨h6, rfl, rfl⟩ | ⟨p, cap, us, h6, h7, h8, h9, h10⟩
  · have := run_append_owned_none (P := P) w 0 t tyo el i size hu hi (cA) n vs h3
    rw [h6]
    exact ⟨cA, w, [], this, by simpa using h3, ⟨rfl, rfl, rfl, Nat.le_refl _, fun _ _ _ => rfl⟩, by simp, by simp [VRs], fun _ => rfl, fun b hb => .inr hb⟩
  · rw [h6]
    have hul := h9.length
    have hone' := ones_of h9 hone
    rcases h3.2 with ⟨h11, h12⟩ | ⟨g, cap', cur, h11, _, hg, hnc, _⟩
    · -- nothing yet
      rw [h11]
      have hv0 : vs = [] := List.eq_nil_of_length_eq_zero (by have := h3.1; simpa [h12] using this)
      subst hv0
      have h3' : w.ownsRow w.heap.size el size (.slice none 0 0) n [] := by subst h12; exact World.ownsRow_nil _ _ _ _
      obtain ⟨v', w', k1, k2, k3, k4⟩ := run_append_own (P := P) w w.heap.size t tyo el i z size i.bytes hu hi hz hsz rfl hzs hpos (.slice none 0 0) n [] h3' p m cap us (by omega) h10 hone' hml hb (Nat.le_refl _)
      refine ⟨v', w', us, k1, ⟨k2.1, ?_⟩, k3, by simpa using k4, h9, fun h => ?_, fun b hb => ?_⟩
      · rcases k2.2 with q | ⟨g, cap, cur, q1, q2, q3⟩
        · exact .inl q
        · exact .inr ⟨g, cap, cur, q1, Nat.zero_le _, q3⟩
      · exact k4.2 ⟨rfl, h⟩
      · rcases k2.2 with ⟨q, _⟩ | ⟨g, cap, cur, q1, q2, q3⟩
        · rw [q] at hb; simp [blk] at hb
        · rw [q1] at hb; simp only [blk, Option.some.injEq] at hb; omega
    · rw [h11] at h3 ⊢
      by_cases hroom : n + m ≤ cap'
      · obtain ⟨w', k1, k2, k3⟩ := run_append_fits (P := P) w 0 t tyo el i size hu hi hsz g n cap' vs h3 p m cap us (by omega) h10 hone' hroom
        exact ⟨_, w', us, k1, k2, k3, by simp, h9, fun h => by subst h; rfl, fun b hb => .inr hb⟩
      · obtain ⟨v', w', k1, k2, k3, k4⟩ := run_append_own (P := P) w 0 t tyo el i z size i.bytes hu hi hz hsz rfl hzs hpos _ n vs h3 p m cap us (by omega) h10 hone' hml hb (Nat.zero_le _)
        have k5 := run_append_grow (P := P) w t tyo el i z hu hi hz ⟨g, 0, none⟩ n cap' vs (by rw [hsz]; exact h3.1) (cells_slice (n := n) (m := 0) h3) p m cap us (by rw [hsz]; omega) h10 (by omega)
          (by simp only [maxLen] at hml; omega) (growslice_fits (by omega) hb)
        rw [k1] at k5
        injection k5 with k6 k7
        exact ⟨v', w', us, k1, k2, k3, by simpa using k4, h9, fun h => by omega, fun b hb => .inl (by rw [k6] at hb; simp only [blk, Option.some.injEq] at hb; omega)⟩
/-- append to a row of the walk's own. -/
theorem AUpd.append {o : Oper} {t el et : TypeId} {s x : Operand} {i : TypeInfo} {z : Value} {id n n' m size : Nat} {nn nn' : Bool} {cells news : List AV}
    (ho : o.op = .call { callee := .builtin .append, args := #[s, x], argTypes := #[t, t] }) (hu : P.underlying t = some (.slice el)) (hi : P.info? el = some i) (hz : i.zero = some z)
    (hsz : i.size = size) (hzs : z.cells.size = size) (hpos : 0 < size)
    (hs : ev e s = .own id n) (hH : H[id]? = some (.sl el size n' nn cells)) (hn : n = n') (hx : rowOf H (ev e x) = some (m, news)) (hone : news.all AV.one = true)
    (hb : (n + m) * i.bytes ≤ 140737488355328) (hml : n + m ≤ maxLen) (hl : news.length = m * size) (hnn : nn' = true → nn = true ∨ 0 < m) :
    AUpd P N o e H id (.own id (n + m)) (H.set id (.sl el size (n + m) nn' (cells ++ news))) := by
  subst hn
  intro R F A w a hinv he
  have hvs := he.ev s
  rw [hs] at hvs
  simp only [VR] at hvs
  obtain ⟨o1, h1, _, h2⟩ := hvs
  rw [hH] at h1
  cases h1
  have h2 := (h2.resolve_left (by simp)).2.2 rfl
  obtain ⟨vs, h3, h4, h5⟩ := hinv.obj id _ hH
  have hrow := row_sound hinv (he.ev x) hx
  have hidlt : id < H.length := (List.getElem?_eq_some_iff.1 hH).1
  have hrun := append_run (P := P) (tyo := o.type) hu hi hz hsz hzs hpos h3 hrow hone hb hml hl
  obtain ⟨v', w', us, hr, how, hgr, hnil, hus, hm0, hblk⟩ := hrun
  have hown : blk (A id) = (A id).ownBlock := by
    rcases h3.2 with ⟨h, _⟩ | ⟨g, cap, cur, h, _⟩ <;> rw [h] <;> rfl
  have hpush := Inv.upd (w' := w') (c := v') (o := .sl el size (n + m) nn' (cells ++ news)) hinv hH (by simp) (by simp) rfl (by simp [AO.len]) (fun h => hm0 (by simp [AO.len] at h; omega))
    hgr.size (fun b hb hne => hgr.block b hb (by rw [← hown]; exact fun e => hne e.symm)) hgr.os hgr.tape hgr.output hblk
    (fun hst => ⟨vs ++ us, how, (hst.vrs h4).append (hst.vrs hus), fun h6 h7 => by
      have := hnil.1 h7
      rcases hnn h6 with h8 | h8
      · exact h5 h8 this.1
      · omega⟩)
  refine ⟨v', w', _, ?_, hpush.1, ?_, hpush.2, fun i o hne hio => ⟨by rw [List.getElem?_set_ne (Ne.symm hne)]; exact hio, if_neg hne⟩, fun b hb hne => hgr.block b hb (by rw [← hown]; exact fun e => hne e.symm)⟩
  · unfold execOp
    rw [ho]
    simp only [resolve, invoke, builtin, Sem.run_bind, Sem.run_pure, Result.andThen_ok, List.map_toArray, List.map_cons, List.map_nil, h2, hr]
  · simp only [VR]
    refine ⟨.sl el size (n + m) nn' (cells ++ news), by simp [hidlt], ?_, .inr ⟨rfl, Nat.le_refl _, fun _ => by simp⟩⟩
    rcases how.2 with ⟨h, _⟩ | ⟨g, cap, cur, h, _⟩ <;> exact ⟨_, _, _, h⟩
/-- append to a row that owns rows: what is put behind owns none. -/
theorem AUpd.appendD {o : Oper} {t el : TypeId} {s x : Operand} {i : TypeInfo} {z : Value} {id n n' m size : Nat} {nn nn' : Bool} {cells : List DV} {news : List AV}
    (ho : o.op = .call { callee := .builtin .append, args := #[s, x], argTypes := #[t, t] }) (hu : P.underlying t = some (.slice el)) (hi : P.info? el = some i) (hz : i.zero = some z)
    (hsz : i.size = size) (hzs : z.cells.size = size) (hpos : 0 < size)
    (hs : ev e s = .own id n) (hH : H[id]? = some (.dp el size n' nn cells)) (hn : n = n') (hx : rowOf H (ev e x) = some (m, news)) (hone : news.all AV.one = true)
    (hb : (n + m) * i.bytes ≤ 140737488355328) (hml : n + m ≤ maxLen) (hl : news.length = m * size) (hnn : nn' = true → nn = true ∨ 0 < m) :
    AUpd P N o e H id (.own id (n + m)) (H.set id (.dp el size (n + m) nn' (cells ++ news.map .v))) := by
  subst hn
  intro R F A w a hinv he
  have hvs := he.ev s
  rw [hs] at hvs
  simp only [VR] at hvs
  obtain ⟨o1, h1, _, h2⟩ := hvs
  rw [hH] at h1
  cases h1
  have h2 := (h2.resolve_left (by simp)).2.2 rfl
  obtain ⟨vs, h3, h4, h5, h6⟩ := hinv.obj id _ hH
  have hrow := row_sound hinv (he.ev x) hx
  have hidlt : id < H.length := (List.getElem?_eq_some_iff.1 hH).1
  have hcl := DR.len h4
  obtain ⟨v', w', us, hr, how, hgr, hnil, hus, hm0, hblk⟩ := append_run (P := P) (tyo := o.type) hu hi hz hsz hzs hpos h3 hrow hone hb hml hl
  have hown : blk (A id) = (A id).ownBlock := by
    rcases h3.2 with ⟨h, _⟩ | ⟨g, cap, cur, h, _⟩ <;> rw [h] <;> rfl
  have hkeep : ∀ b, b < w.heap.size → blk (A id) ≠ some b → w'.heap[b]? = w.heap[b]? := fun b hb hne => hgr.block b hb (by rw [← hown]; exact fun e => hne e.symm)
  have hold : ∀ (k : Nat) (y : DV), (cells ++ news.map .v)[k]? = some y → y.isR = true → cells[k]? = some y ∧ k < vs.length := by
    intro k y hy hr
    by_cases hk : k < cells.length
    · rw [List.getElem?_append_left hk] at hy; exact ⟨hy, by omega⟩
    · rw [List.getElem?_append_right (by omega), List.getElem?_map] at hy
      obtain ⟨z, _, rfl⟩ := Option.map_eq_some_iff.1 hy
      cases hr
  have hpush := Inv.updF (w' := w') (c := v') (o := .dp el size (n + m) nn' (cells ++ news.map .v)) hinv hH (by simp) (by simp) rfl (by simp [AO.len]) (fun h => hm0 (by simp [AO.len] at h; omega))
    hgr.size (fun b hb hne => hkeep b hb fun h => hne (.inl h)) hgr.os hgr.tape hgr.output (fun b hb => by
      rcases foot_dp how (by have := hus.length; simp only [List.length_append, List.length_map]; omega) hb with hb | ⟨k, y, u, hy, hr, hv, hb⟩
      · exact (hblk b hb).imp (fun h => h) .inl
      · obtain ⟨q1, q2⟩ := hold k y hy hr
        rw [List.getElem?_append_left q2] at hv
        exact .inr (dp_foot h3 q1 hr hv hb))
    (fun hst => ⟨vs ++ us, how, by
      have e1 : DRs R (fun i => if i = id then v' else A i) (H.set id (.dp el size (n + m) nn' (cells ++ news.map .v))) w' cells vs := h4.imp fun k y u hy hu hd => by
        cases y with
        | v y => exact hst.vr hd
        | r e' s' n' cs' =>
          obtain ⟨ws, k1, k2⟩ := hd
          refine ⟨ws, ownsRow_keep (fun b hb => hkeep b (ownsRow_lt k1 hb) (h6.2 k _ u b hy rfl hu hb)) k1, hst.vrs k2⟩
      have app : ∀ {xs : List DV} {ys : List AV} {as bs : List Value}, DRs R (fun i => if i = id then v' else A i) (H.set id (.dp el size (n + m) nn' (cells ++ news.map .v))) w' xs as → VRs R (fun i => if i = id then v' else A i) (H.set id (.dp el size (n + m) nn' (cells ++ news.map .v))) w' ys bs →
          DRs R (fun i => if i = id then v' else A i) (H.set id (.dp el size (n + m) nn' (cells ++ news.map .v))) w' (xs ++ ys.map .v) (as ++ bs) := by
        intro xs
        induction xs with
        | nil =>
          intro ys
          induction ys with
          | nil => intro as bs h k; cases as <;> cases bs <;> simp_all [DRs, VRs]
          | cons y ys ih =>
            intro as bs h k
            cases as with
            | cons => simp [DRs] at h
            | nil =>
              cases bs with
              | nil => simp [VRs] at k
              | cons b bs =>
                simp only [VRs] at k
                have := ih (as := []) (bs := bs) (by simp [DRs]) k.2
                simp only [List.nil_append, List.map_cons, DRs] at this ⊢
                exact ⟨k.1, this⟩
        | cons x xs ih =>
          intro ys as bs h k
          cases as with
          | nil => simp [DRs] at h
          | cons a as =>
            simp only [DRs] at h
            simp only [List.cons_append, DRs]
            exact ⟨h.1, ih h.2 k⟩
      exact app e1 (hst.vrs hus), fun h6 h7 => by
      have := hnil.1 h7
      rcases hnn h6 with h8 | h8
      · exact h5 h8 this.1
      · omega, by
      refine ⟨fun k k' x y u v b hx hy rx ry hu hv hb hb' => ?_, fun k x u b hx rx hu hb => ?_⟩
      · obtain ⟨q1, q2⟩ := hold k x hx rx
        obtain ⟨q3, q4⟩ := hold k' y hy ry
        rw [List.getElem?_append_left q2] at hu
        rw [List.getElem?_append_left q4] at hv
        exact h6.1 k k' x y u v b q1 q3 rx ry hu hv hb hb'
      · obtain ⟨q1, q2⟩ := hold k x hx rx
        rw [List.getElem?_append_left q2] at hu
        intro hvb
        rcases hblk b hvb with h | h
        · have := OInv.lt (by simp) (hinv.obj id _ hH) (dp_foot (nn := nn) h3 q1 rx hu hb)
          omega
        · exact h6.2 k x u b q1 rx hu hb h⟩)
  refine ⟨v', w', _, ?_, hpush.1, ?_, hpush.2, fun i o hne hio => ⟨by rw [List.getElem?_set_ne (Ne.symm hne)]; exact hio, if_neg hne⟩, hkeep⟩
  · unfold execOp
    rw [ho]
    simp only [resolve, invoke, builtin, Sem.run_bind, Sem.run_pure, Result.andThen_ok, List.map_toArray, List.map_cons, List.map_nil, h2, hr]
  · simp only [VR]
    refine ⟨.dp el size (n + m) nn' (cells ++ news.map .v), by simp [hidlt], ?_, .inr ⟨rfl, Nat.le_refl _, fun _ => by simp⟩⟩
    rcases how.2 with ⟨h, _⟩ | ⟨g, cap, cur, h, _⟩ <;> exact ⟨_, _, _, h⟩
theorem AYield.lenDp {o : Oper} {t el et : TypeId} {x : Operand} {id n m size : Nat} {nn : Bool} {cells : List DV} (ho : o.op = .call { callee := .builtin .len, args := #[x], argTypes := #[t] })
    (hu : P.underlying t = some (.slice el)) (hx : ev e x = .own id n) (hH : H[id]? = some (.dp et size m nn cells)) (hn : n = m) : AYield P N o e H (.lit (.int .i64 n)) := by
  subst hn
  intro R F A w a hinv he
  have hvx := he.ev x
  rw [hx] at hvx
  simp only [VR] at hvx
  obtain ⟨o1, h2, _, h6'⟩ := hvx
  rw [hH] at h2
  cases h2
  have h6 := (h6'.resolve_left (by simp)).2.2 rfl
  obtain ⟨vs, h7, h8, h9, _⟩ := hinv.obj id _ hH
  refine ⟨.int .i64 n, ?_, by simp only [VR]⟩
  intro w
  unfold execOp
  rw [ho]
  rcases h7.2 with ⟨h10, h11⟩ | ⟨g, cap, cur, h10, _⟩
  · have h12 : a.eval x = .slice none 0 0 := h6.trans h10
    subst h11
    simp [resolve, invoke, builtin, h12, Builtin.len_, run_underlying hu, goInt]
  · have h12 : a.eval x = .slice (some ⟨g, 0, none⟩) n cap := h6.trans h10
    simp [resolve, invoke, builtin, h12, Builtin.len_, run_underlying hu, goInt]
/-- An element's place, in a row that owns rows. -/
theorem AYield.indexDp {o : Oper} {t el et : TypeId} {x ix : Operand} {i : TypeInfo} {id n m size : Nat} {nn : Bool} {cells : List DV} {k : IntKind} {q : Int} (ho : o.op = .indexAddr t x ix)
    (hu : P.underlying t = some (.slice el)) (hi : P.info? el = some i) (hx : ev e x = .own id n) (hH : H[id]? = some (.dp et size m nn cells)) (hn : n = m)
    (hq : ev e ix = .lit (.int k q)) (h0 : 0 ≤ q) (h1 : q < n) : AYield P N o e H (.optr id n (q.toNat * i.size)) := by
  subst hn
  intro R F A w a hinv he
  have hvx := he.ev x
  have hvq := he.ev ix
  rw [hx] at hvx
  rw [hq] at hvq
  simp only [VR] at hvx hvq
  obtain ⟨o1, h2, _, h6⟩ := hvx
  rw [hH] at h2
  cases h2
  have h6 := (h6.resolve_left (by simp)).2.2 rfl
  obtain ⟨vs, h7, h8, h9⟩ := hinv.obj id _ hH
  rcases h7.2 with ⟨h10, h11⟩ | ⟨g, cap, cur, h10, _⟩
  · omega
  refine ⟨.pointer (some ⟨g, q.toNat * i.size, none⟩), ?_, ?_⟩
  · intro w; unfold execOp
    rw [ho]
    simp only [h6, h10, hvq, Instr.indexAt, asIntOf, run_underlying hu, Sem.run_bind, Sem.run_pure, Result.andThen_ok, sizeOf, typeInfo, hi, run_program]
    rw [if_pos ⟨h0, h1⟩]
    simp only [Sem.run_bind, Sem.run_pure, Result.andThen_ok, run_program, hi, Addr.add_mid, Nat.zero_add]
  · simp only [VR]
    exact ⟨_, g, hH, rfl, .inr ⟨rfl, Nat.le_refl _, fun _ => ⟨n, cap, h10⟩⟩⟩
end
/-! ### a part of the objects, under other numbers -/
mutual
def noid : AV → Bool
  | .any | .lit _ => true
  | .row _ _ _ cells | .rptr cells | .agg cells | .tup cells | .fn _ cells => noids cells
  | _ => false
def noids : List AV → Bool
  | [] => true
  | x :: xs => noid x && noids xs
end
mutual
def norow : AV → Bool
  | .row .. | .rptr _ => false
  | .agg cells | .tup cells | .fn _ cells => norows cells
  | _ => true
def norows : List AV → Bool
  | [] => true
  | x :: xs => norow x && norows xs
end
def DV.noid : DV → Bool
  | .v x => YtdaneldckdjjoaaDoorA.noid x
  | .r _ _ _ cells => noids cells
mutual
inductive Sub (l : Bool) (ρ : List Nat) (H : List AO) : AV → AV → Prop
  | any {x} : Sub l ρ H x .any
  | lit {v} : Sub l ρ H (.lit v) (.lit v)
  | rowNil {size} : Sub l ρ H (.lit (.slice none 0 0)) (.row size 0 false [])
  | row {size n nn nn' cells cells0} : (nn = true → nn' = true) → Subs l ρ H cells cells0 → Sub l ρ H (.row size n nn' cells) (.row size n nn cells0)
  | lend {id n m e size nn nn' cells cells0} : l = true → H[id]? = some (.sl e size m nn' cells) → n = m → (nn = true → nn' = true) → id ∉ ρ → Subs l ρ H cells cells0 →
      Sub l ρ H (.own id n) (.row size n nn cells0)
  | lendD {id n m e size nn nn' cells cells0} : l = true → H[id]? = some (.dp e size m nn' cells) → n = m → (nn = true → nn' = true) → id ∉ ρ → DSubs l ρ H cells cells0 →
      Sub l ρ H (.own id n) (.row size n nn cells0)
  | rptr {cells cells0} : Subs l ρ H cells cells0 → Sub l ρ H (.rptr cells) (.rptr cells0)
  | own {id j n} : ρ[j]? = some id → Sub l ρ H (.own id n) (.own j n)
  | nilOwn {id j e size} : ρ[j]? = some id → H[id]? = some (.nil e size) → Sub l ρ H (.lit (.slice none 0 0)) (.own j 0)
  | optr {id j n off} : ρ[j]? = some id → Sub l ρ H (.optr id n off) (.optr j n off)
  | ptr {id j off} : ρ[j]? = some id → Sub l ρ H (.ptr id off) (.ptr j off)
  | lendP {id e cells cells0} : l = true → H[id]? = some (.bx e cells) → id ∉ ρ → Subs l ρ H cells cells0 → Sub l ρ H (.ptr id 0) (.rptr cells0)
  | agg {cells cells0} : Subs l ρ H cells cells0 → Sub l ρ H (.agg cells) (.agg cells0)
  | tup {cells cells0} : Subs l ρ H cells cells0 → Sub l ρ H (.tup cells) (.tup cells0)
  | fn {f cells cells0} : Subs l ρ H cells cells0 → Sub l ρ H (.fn f cells) (.fn f cells0)
inductive Subs (l : Bool) (ρ : List Nat) (H : List AO) : List AV → List AV → Prop
  | nil : Subs l ρ H [] []
  | cons {x x0 xs xs0} : Sub l ρ H x x0 → Subs l ρ H xs xs0 → Subs l ρ H (x :: xs) (x0 :: xs0)
  | same {xs} : noids xs = true → Subs l ρ H xs xs
/-- The cells of a row that owns rows, only read. -/
inductive DSubs (l : Bool) (ρ : List Nat) (H : List AO) : List DV → List AV → Prop
  | nil : DSubs l ρ H [] []
  | v {x x0 xs xs0} : Sub l ρ H x x0 → DSubs l ρ H xs xs0 → DSubs l ρ H (.v x :: xs) (x0 :: xs0)
  | r {e s n cells cells0 xs xs0} : Subs l ρ H cells cells0 → DSubs l ρ H xs xs0 → DSubs l ρ H (.r e s n cells :: xs) (.row s n false cells0 :: xs0)
end
inductive SubO (l : Bool) (ρ : List Nat) (H : List AO) : AO → AO → Prop
  | sl {e size n nn nn0 cells cells0} : (nn0 = true → nn = true) → Subs l ρ H cells cells0 → SubO l ρ H (.sl e size n nn cells) (.sl e size n nn0 cells0)
  | nil {e size} : SubO l ρ H (.nil e size) (.sl e size 0 false [])
  | nilD {e size} : SubO l ρ H (.nil e size) (.dp e size 0 false [])
  | bx {e cells cells0} : Subs l ρ H cells cells0 → SubO l ρ H (.bx e cells) (.bx e cells0)
  | dp {e size n nn nn0 cells} : (nn0 = true → nn = true) → cells.all DV.noid = true → SubO l ρ H (.dp e size n nn cells) (.dp e size n nn0 cells)
  | gone : SubO l ρ H .gone .gone
inductive SubH (l : Bool) (ρ : List Nat) (H : List AO) : List Nat → List AO → Prop
  | nil : SubH l ρ H [] []
  | cons {i is o o0 os} : H[i]? = some o → SubO l ρ H o o0 → SubH l ρ H is os → SubH l ρ H (i :: is) (o0 :: os)

section
variable {R R0 F : Nat → Prop} {A A0 : Nat → Value} {H H0 : List AO} {w : World}

mutual
theorem VR.noid' (hr : ∀ b, R b → R0 b) : ∀ (x : AV) (c : Value), noid x = true → VR R A H w x c → VR R0 A0 H0 w x c
  | .any, _, _, _ => by simp [VR]
  | .lit v, c, _, h => by simpa [VR] using h
  | .row size n nn cells, c, hn, h => by
    simp only [noid] at hn
    simp only [VR] at h ⊢
    rcases h with h | ⟨a, cap, vs, h1, h2, h4, h5, h6, h7⟩
    · exact .inl h
    · exact .inr ⟨a, cap, vs, h1, fun z => ⟨hr _ (h2 z).1, (h2 z).2⟩, h4, h5, VRs.noid' hr cells vs hn h6, h7⟩
  | .rptr cells, c, hn, h => by
    simp only [noid] at hn
    simp only [VR] at h ⊢
    obtain ⟨a, vs, h1, h2, h3, h6, h7⟩ := h
    exact ⟨a, vs, h1, hr _ h2, h3, VRs.noid' hr cells vs hn h6, h7⟩
  | .agg cells, c, hn, h => by
    simp only [noid] at hn
    simp only [VR] at h ⊢
    obtain ⟨vs, h1, h2⟩ := h
    exact ⟨vs, VRs.noid' hr cells vs hn h1, h2⟩
  | .tup cells, c, hn, h => by
    simp only [noid] at hn
    simp only [VR] at h ⊢
    obtain ⟨vs, h1, h2⟩ := h
    exact ⟨vs, VRs.noid' hr cells vs hn h1, h2⟩
  | .fn f cells, c, hn, h => by
    simp only [noid] at hn
    simp only [VR] at h ⊢
    obtain ⟨vs, h1, h2⟩ := h
    exact ⟨vs, VRs.noid' hr cells vs hn h1, h2⟩
  | .own .., _, hn, _ => by simp [noid] at hn
  | .optr .., _, hn, _ => by simp [noid] at hn
  | .ptr .., _, hn, _ => by simp [noid] at hn
theorem VRs.noid' (hr : ∀ b, R b → R0 b) : ∀ (xs : List AV) (vs : List Value), noids xs = true → VRs R A H w xs vs → VRs R0 A0 H0 w xs vs
  | [], [], _, _ => by simp [VRs]
  | x :: xs, v :: vs, hn, h => by
    simp only [noids, Bool.and_eq_true] at hn
    simp only [VRs] at h ⊢
    exact ⟨VR.noid' hr x v hn.1 h.1, VRs.noid' hr xs vs hn.2 h.2⟩
  | [], _ :: _, _, h => by simp [VRs] at h
  | _ :: _, [], _, h => by simp [VRs] at h
end

theorem DR.noid' (hr : ∀ b, R b → R0 b) {x : DV} {c : Value} (hn : x.noid = true) (h : DR R A H w x c) : DR R0 A0 H0 w x c := by
  cases x with
  | v x => exact VR.noid' hr x c hn h
  | r e s n cs => obtain ⟨us, k1, k2⟩ := h; exact ⟨us, k1, VRs.noid' hr cs us hn k2⟩
theorem SubO.foot {l ρ o o0} {c : Value} {b : Nat} (h : SubO l ρ H o o0) (hf : foot w c o0 b) : foot w c o b := by
  cases h with
  | dp hn hc =>
    rcases hf with hf | ⟨i, u, h1, h2, h3⟩
    · exact .inl hf
    · exact .inr ⟨i, u, h1, h2, h3⟩
  | _ => exact .inl (foot_plain (fun _ => rfl) hf)
theorem SubH.get {l ρ} : ∀ {is : List Nat} {os : List AO}, SubH l ρ H is os → ∀ (j i : Nat), is[j]? = some i → ∃ o o0, H[i]? = some o ∧ os[j]? = some o0 ∧ SubO l ρ H o o0
  | _, _, .nil, j, i, h => by simp at h
  | _, _, .cons h1 h2 h3, 0, i, h => by simp at h; subst h; exact ⟨_, _, h1, rfl, h2⟩
  | _, _, .cons h1 h2 h3, j + 1, i, h => by simp only [List.getElem?_cons_succ] at h ⊢; exact SubH.get h3 j i h

theorem SubH.length {l ρ} : ∀ {is : List Nat} {os : List AO}, SubH l ρ H is os → is.length = os.length
  | _, _, .nil => rfl
  | _, _, .cons _ _ h => by simp [SubH.length h]

theorem SubO.same {l ρ o o0} (h : SubO l ρ H o o0) : o0.len = o.len ∧ o0.kind = o.kind ∧ (o0 = .gone ↔ o = .gone) := by cases h <;> simp [AO.len, AO.kind]

mutual
theorem Sub.ok {l : Bool} {ρ : List Nat} (hi : Inv R F A H w) (hr : ∀ b, R b → R0 b) (hl : l = true → ∀ i o b, i ∉ ρ → H[i]? = some o → o ≠ .gone → foot w (A i) o b → R0 b)
    (hA : ∀ j i, ρ[j]? = some i → A0 j = A i ∧ ∃ o o0, H[i]? = some o ∧ H0[j]? = some o0 ∧ o0.len = o.len ∧ o0.kind = o.kind ∧ (o0 = .gone ↔ o = .gone)) :
    ∀ {x x0 : AV}, Sub l ρ H x x0 → ∀ {c : Value}, VR R A H w x c → VR R0 A0 H0 w x0 c
  | _, _, .any, c, _ => by simp [VR]
  | _, _, .lit, c, h => by simpa [VR] using h
  | _, _, .rowNil, c, h => by simp only [VR] at h ⊢; exact .inl (by simp [h])
  | _, _, .row (nn := nn) (cells := cells) (cells0 := cells0) hn hs, c, h => by
    simp only [VR] at h ⊢
    rcases h with ⟨h1, h2, h3, h4⟩ | ⟨a, cap, vs, h1, h2, h4, h5, h6, h7⟩
    · subst h3
      have hs' : VRs R0 A0 H0 w cells0 [] := Subs.ok hi hr hl hA hs (vs := []) (by simp [VRs])
      have h0 : cells0 = [] := List.eq_nil_of_length_eq_zero (by simpa using hs'.length)
      have hnn : nn = false := by cases nn; rfl; have := hn rfl; simp_all
      exact .inl ⟨h1, h2, h0, hnn⟩
    · exact .inr ⟨a, cap, vs, h1, fun z => ⟨hr _ (h2 z).1, (h2 z).2⟩, h4, h5, Subs.ok hi hr hl hA hs h6, h7⟩
  | _, _, .lend (id := id) (n := n) (nn := nn) (cells0 := cells0) hlt hH hnm hn hρ hs, c, h => by
    subst hnm
    simp only [VR] at h ⊢
    obtain ⟨o, h1, h2, h3⟩ := h
    rw [hH] at h1
    cases h1
    have h4 := (h3.resolve_left (by simp)).2.2 rfl
    obtain ⟨vs, h5, h6, h7⟩ := hi.obj id _ hH
    have h8 := Subs.ok hi hr hl hA hs h6
    rw [← h4] at h5 h7
    rcases h5.2 with ⟨h9, h10⟩ | ⟨g, cap, cur, rfl, hb, hg, hnc, _⟩
    · have hv0 : vs = [] := List.eq_nil_of_length_eq_zero (by have := h5.1; simpa [h10] using this)
      subst hv0
      have h0 : cells0 = [] := List.eq_nil_of_length_eq_zero (by simpa using h8.length)
      have hnn : nn = false := by
        cases hb : nn with
        | false => rfl
        | true => exact absurd h9 (h7 (hn hb))
      exact .inl ⟨h9, h10, h0, hnn⟩
    · refine .inr ⟨_, cap, vs, rfl, fun _ => ⟨?_, rfl⟩, hnc, h5.1, h8, cells_slice (n := n) (m := 0) h5⟩
      exact hl hlt id _ g hρ hH (by simp) (.inl (by rw [← h4]; rfl))
  | _, _, .lendD (id := id) (n := n) (nn := nn) (cells := cells) (cells0 := cells0) hlt hH hnm hn hρ hs, c, h => by
    subst hnm
    simp only [VR] at h ⊢
    obtain ⟨o, h1, h2, h3⟩ := h
    rw [hH] at h1
    cases h1
    have h4 := (h3.resolve_left (by simp)).2.2 rfl
    obtain ⟨vs, h5, h6, h7, _⟩ := hi.obj id _ hH
    have hf : ∀ b, foot w (A id) (.dp _ _ n _ cells) b → R0 b := fun b hb => hl hlt id _ b hρ hH (by simp) hb
    have h8 : VRs R0 A0 H0 w cells0 vs := DSubs.ok hi hr hl hA hs (fun j x u b k1 k2 k3 k4 => hf b (dp_foot h5 k1 k2 k3 k4)) h6
    rw [← h4] at h5 h7 hf
    rcases h5.2 with ⟨h9, h10⟩ | ⟨g, cap, cur, rfl, hb, hg, hnc, _⟩
    · have hv0 : vs = [] := List.eq_nil_of_length_eq_zero (by have := h5.1; simpa [h10] using this)
      subst hv0
      have h0 : cells0 = [] := List.eq_nil_of_length_eq_zero (by simpa using h8.length)
      have hnn : nn = false := by
        cases hb : nn with
        | false => rfl
        | true => exact absurd h9 (h7 (hn hb))
      exact .inl ⟨h9, h10, h0, hnn⟩
    · exact .inr ⟨_, cap, vs, rfl, fun _ => ⟨hf g (.inl rfl), rfl⟩, hnc, h5.1, h8, cells_slice (n := n) (m := 0) h5⟩
  | _, _, .rptr hs, c, h => by
    simp only [VR] at h ⊢
    obtain ⟨a, vs, h1, h2, h3, h6, h7⟩ := h
    exact ⟨a, vs, h1, hr _ h2, h3, Subs.ok hi hr hl hA hs h6, h7⟩
  | _, _, .lendP (id := id) hlt hH hρ hs, c, h => by
    simp only [VR] at h ⊢
    obtain ⟨o, g, h1, h2, h3⟩ := h
    rw [hH] at h1
    cases h1
    obtain ⟨_, h4⟩ := h3.resolve_left (by simp)
    obtain ⟨g', vs, h5, h6, h7⟩ := hi.obj id _ hH
    rw [h4] at h5
    simp only [Value.pointer.injEq, Option.some.injEq, Addr.mk.injEq, and_true] at h5
    subst h5
    refine ⟨_, vs, h2, ?_, rfl, Subs.ok hi hr hl hA hs h7, ?_⟩
    · exact hl hlt id _ g hρ hH (by simp) (.inl (by rw [h4]; rfl))
    · intro j u hu
      rw [Addr.add_mid, cell_of_row w g (0 + j) vs.toArray _ (0, 0) h6]
      simpa using hu
  | _, _, .own hj, c, h => by
    simp only [VR] at h ⊢
    obtain ⟨o, h1, h2, h3⟩ := h
    obtain ⟨k1, o', o0, k2, k3, k4, k5, k6⟩ := hA _ _ hj
    rw [h1] at k2; cases k2
    refine ⟨o0, k3, h2, ?_⟩
    rcases h3 with h3 | ⟨h3, h4, h5⟩
    · exact .inl (k6.2 h3)
    · exact .inr ⟨by rw [k5]; exact h3, by rw [k4]; exact h4, fun e => by rw [k1]; exact h5 (by rw [← k4]; exact e)⟩
  | _, _, .nilOwn hj hH, c, h => by
    simp only [VR] at h ⊢
    obtain ⟨k1, o', o0, k2, k3, k4, k5, k6⟩ := hA _ _ hj
    rw [hH] at k2; cases k2
    refine ⟨o0, k3, ⟨_, _, _, h⟩, .inr ⟨by rw [k5]; rfl, Nat.zero_le _, fun _ => ?_⟩⟩
    rw [k1, h]
    exact (hi.obj _ _ hH).symm
  | _, _, .optr hj, c, h => by
    simp only [VR] at h ⊢
    obtain ⟨o, g, h1, h2, h3⟩ := h
    obtain ⟨k1, o', o0, k2, k3, k4, k5, k6⟩ := hA _ _ hj
    rw [h1] at k2; cases k2
    refine ⟨o0, g, k3, h2, ?_⟩
    rcases h3 with h3 | ⟨h3, h4, h5⟩
    · exact .inl (k6.2 h3)
    · exact .inr ⟨by rw [k5]; exact h3, by rw [k4]; exact h4, fun e => by rw [k1]; exact h5 (by rw [← k4]; exact e)⟩
  | _, _, .ptr hj, c, h => by
    simp only [VR] at h ⊢
    obtain ⟨o, g, h1, h2, h3⟩ := h
    obtain ⟨k1, o', o0, k2, k3, k4, k5, k6⟩ := hA _ _ hj
    rw [h1] at k2; cases k2
    refine ⟨o0, g, k3, h2, ?_⟩
    rcases h3 with h3 | ⟨h3, h4⟩
    · exact .inl (k6.2 h3)
    · exact .inr ⟨by rw [k5]; exact h3, by rw [k1]; exact h4⟩
  | _, _, .agg hs, c, h => by
    simp only [VR] at h ⊢
    obtain ⟨vs, h1, h2⟩ := h
    exact ⟨vs, Subs.ok hi hr hl hA hs h1, h2⟩
  | _, _, .tup hs, c, h => by
    simp only [VR] at h ⊢
    obtain ⟨vs, h1, h2⟩ := h
    exact ⟨vs, Subs.ok hi hr hl hA hs h1, h2⟩
  | _, _, .fn hs, c, h => by
    simp only [VR] at h ⊢
    obtain ⟨vs, h1, h2⟩ := h
    exact ⟨vs, Subs.ok hi hr hl hA hs h1, h2⟩
theorem Subs.ok {l : Bool} {ρ : List Nat} (hi : Inv R F A H w) (hr : ∀ b, R b → R0 b) (hl : l = true → ∀ i o b, i ∉ ρ → H[i]? = some o → o ≠ .gone → foot w (A i) o b → R0 b)
    (hA : ∀ j i, ρ[j]? = some i → A0 j = A i ∧ ∃ o o0, H[i]? = some o ∧ H0[j]? = some o0 ∧ o0.len = o.len ∧ o0.kind = o.kind ∧ (o0 = .gone ↔ o = .gone)) :
    ∀ {xs xs0 : List AV}, Subs l ρ H xs xs0 → ∀ {vs : List Value}, VRs R A H w xs vs → VRs R0 A0 H0 w xs0 vs
  | _, _, .nil, vs, h => by cases vs <;> simp_all [VRs]
  | _, _, .cons h1 h2, [], h => by simp [VRs] at h
  | _, _, .cons h1 h2, v :: vs, h => by
    simp only [VRs] at h ⊢
    exact ⟨Sub.ok hi hr hl hA h1 h.1, Subs.ok hi hr hl hA h2 h.2⟩
  | _, _, .same hn, vs, h => VRs.noid' hr _ vs hn h
theorem DSubs.ok {l : Bool} {ρ : List Nat} (hi : Inv R F A H w) (hr : ∀ b, R b → R0 b) (hl : l = true → ∀ i o b, i ∉ ρ → H[i]? = some o → o ≠ .gone → foot w (A i) o b → R0 b)
    (hA : ∀ j i, ρ[j]? = some i → A0 j = A i ∧ ∃ o o0, H[i]? = some o ∧ H0[j]? = some o0 ∧ o0.len = o.len ∧ o0.kind = o.kind ∧ (o0 = .gone ↔ o = .gone)) :
    ∀ {xs : List DV} {xs0 : List AV}, DSubs l ρ H xs xs0 → ∀ {vs : List Value}, (∀ (j : Nat) x u b, xs[j]? = some x → x.isR = true → vs[j]? = some u → blk u = some b → R0 b) → DRs R A H w xs vs → VRs R0 A0 H0 w xs0 vs
  | _, _, .nil, vs, _, h => by cases vs <;> simp_all [DRs, VRs]
  | _, _, .v h1 h2, [], _, h => by simp [DRs] at h
  | _, _, .v h1 h2, v :: vs, hf, h => by
    simp only [DRs] at h
    simp only [VRs]
    exact ⟨Sub.ok hi hr hl hA h1 h.1, DSubs.ok hi hr hl hA h2 (fun j x u b k1 k2 k3 k4 => hf (j + 1) x u b (by simpa using k1) k2 (by simpa using k3) k4) h.2⟩
  | _, _, .r h1 h2, [], _, h => by simp [DRs] at h
  | _, _, .r (s := s) (n := n) (cells0 := cells0) h1 h2, v :: vs, hf, h => by
    simp only [DRs] at h
    simp only [VRs]
    refine ⟨?_, DSubs.ok hi hr hl hA h2 (fun j x u b k1 k2 k3 k4 => hf (j + 1) x u b (by simpa using k1) k2 (by simpa using k3) k4) h.2⟩
    obtain ⟨us, h5, h6⟩ := h.1
    have h8 : VRs R0 A0 H0 w cells0 us := Subs.ok hi hr hl hA h1 h6
    simp only [VR]
    rcases h5.2 with ⟨h9, h10⟩ | ⟨g, cap, cur, rfl, hb, hg, hnc, _⟩
    · have hv0 : us = [] := List.eq_nil_of_length_eq_zero (by have := h5.1; simpa [h10] using this)
      subst hv0
      have h0 : cells0 = [] := List.eq_nil_of_length_eq_zero (by simpa using h8.length)
      exact .inl ⟨h9, h10, h0, trivial⟩
    · exact .inr ⟨_, cap, us, rfl, fun _ => ⟨hf 0 _ _ g rfl rfl rfl rfl, rfl⟩, hnc, h5.1, h8, cells_slice (n := n) (m := 0) h5⟩
end

/-- The ground of a part: what is not in it may be lent (R grows by it) or is kept as it is (F grows by it). -/
def RL (l : Bool) (R : Nat → Prop) (ρ : List Nat) (A : Nat → Value) (H : List AO) (w : World) : Nat → Prop :=
  fun b => R b ∨ (l = true ∧ ∃ i o, i ∉ ρ ∧ H[i]? = some o ∧ o ≠ .gone ∧ foot w (A i) o b)
def FL (l : Bool) (F : Nat → Prop) (ρ : List Nat) (A : Nat → Value) (H : List AO) (w : World) : Nat → Prop :=
  fun b => F b ∨ (l = false ∧ ∃ i o, i ∉ ρ ∧ H[i]? = some o ∧ o ≠ .gone ∧ foot w (A i) o b)

theorem SubH.hA {l ρ} (hs : SubH l ρ H ρ H0) : ∀ j i, ρ[j]? = some i → (fun j => A (ρ.getD j 0)) j = A i ∧ ∃ o o0, H[i]? = some o ∧ H0[j]? = some o0 ∧ o0.len = o.len ∧ o0.kind = o.kind ∧ (o0 = .gone ↔ o = .gone) := by
  intro j i hj
  obtain ⟨o, o0, h1, h2, h3⟩ := hs.get j i hj
  exact ⟨by simp [List.getD_eq_getElem?_getD, hj], o, o0, h1, h2, h3.same⟩

theorem Inv.part {l : Bool} {ρ : List Nat} (hi : Inv R F A H w) (hnd : ρ.Nodup) (hs : SubH l ρ H ρ H0) :
    Inv (RL l R ρ A H w) (FL l F ρ A H w) (fun j => A (ρ.getD j 0)) H0 w := by
  have key : ∀ j o0, H0[j]? = some o0 → ∃ i o, ρ[j]? = some i ∧ H[i]? = some o ∧ SubO l ρ H o o0 ∧ A (ρ.getD j 0) = A i := by
    intro j o0 hj
    have hlt : j < ρ.length := by rw [hs.length]; exact (List.getElem?_eq_some_iff.1 hj).1
    obtain ⟨o, o0', h1, h2, h3⟩ := hs.get j ρ[j] (by simp [hlt])
    rw [hj] at h2; cases h2
    exact ⟨ρ[j], o, by simp [hlt], h1, h3, by simp [List.getD_eq_getElem?_getD, hlt]⟩
  refine ⟨?_, ?_, ?_, ?_, ?_, ?_, hi.tab.mono (fun b hb => .inl hb) (fun _ _ => rfl)⟩
  · rintro b (h | ⟨hl, i, o, h1, h2, h3, h4⟩) (k | ⟨kl, i', o', k1, k2, k3, k4⟩)
    · exact hi.rf b h k
    · exact (hi.own i' o' b k2 k3 k4).1 h
    · exact (hi.own i o b h2 h3 h4).2 k
    · rw [hl] at kl; cases kl
  · rintro b (h | ⟨hl, i, o, h1, h2, h3, h4⟩)
    · exact hi.rlt b h
    · exact OInv.lt h3 (hi.obj i o h2) h4
  · rintro b (h | ⟨hl, i, o, h1, h2, h3, h4⟩)
    · exact hi.flt b h
    · exact OInv.lt h3 (hi.obj i o h2) h4
  · intro j o0 b hj hg hb
    obtain ⟨i, o, h1, h2, h3, h4⟩ := key j o0 hj
    rw [h4] at hb
    have hg' : o ≠ .gone := fun e => hg (h3.same.2.2.2 e)
    have hmem : i ∈ ρ := List.mem_of_getElem? h1
    have hb := h3.foot hb
    have := hi.own i o b h2 hg' hb
    refine ⟨?_, ?_⟩
    · rintro (h | ⟨_, i', o', k1, k2, k3, k4⟩)
      · exact this.1 h
      · have := hi.inj i i' o o' b h2 k2 hg' k3 hb k4
        subst this; exact k1 hmem
    · rintro (h | ⟨_, i', o', k1, k2, k3, k4⟩)
      · exact this.2 h
      · have := hi.inj i i' o o' b h2 k2 hg' k3 hb k4
        subst this; exact k1 hmem
  · intro j j' p q b hp hq hgp hgq hb hc
    obtain ⟨i, o, h1, h2, h3, h4⟩ := key j p hp
    obtain ⟨i', o', k1, k2, k3, k4⟩ := key j' q hq
    rw [h4] at hb
    rw [k4] at hc
    have := hi.inj i i' o o' b h2 k2 (fun e => hgp (h3.same.2.2.2 e)) (fun e => hgq (k3.same.2.2.2 e)) (h3.foot hb) (k3.foot hc)
    subst this
    have hj : j < ρ.length := (List.getElem?_eq_some_iff.1 h1).1
    have hj' : j' < ρ.length := (List.getElem?_eq_some_iff.1 k1).1
    exact (List.getElem?_inj hj hnd).1 (h1.trans k1.symm)
  · intro j o0 hj
    obtain ⟨i, o, h1, h2, h3, h4⟩ := key j o0 hj
    rw [h4]
    have hob := hi.obj i o h2
    have ok : ∀ {xs xs0 : List AV}, Subs l ρ H xs xs0 → ∀ {vs : List Value}, VRs R A H w xs vs → VRs (RL l R ρ A H w) (fun j => A (ρ.getD j 0)) H0 w xs0 vs :=
      Subs.ok hi (fun b hb => .inl hb) (fun hl i o b h1 h2 h3 h4 => .inr ⟨hl, i, o, h1, h2, h3, h4⟩) hs.hA
    cases h3 with
    | gone => trivial
    | sl hn hc =>
      obtain ⟨vs, k1, k2, k3⟩ := hob
      exact ⟨vs, k1, ok hc k2, fun h => k3 (hn h)⟩
    | dp hn hc =>
      obtain ⟨vs, k1, k2, k3, k4⟩ := hob
      exact ⟨vs, k1, k2.imp fun j x u q1 q2 q3 => q3.noid' (fun b hb => .inl hb) (List.all_eq_true.1 hc x (List.mem_of_getElem? q1)), fun h => k3 (hn h), k4⟩
    | nil =>
      have hob : A i = .slice none 0 0 := hob
      rw [hob]
      exact ⟨[], World.ownsRow_nil _ _ _ _, by simp [VRs], by simp⟩
    | nilD =>
      have hob : A i = .slice none 0 0 := hob
      rw [hob]
      exact ⟨[], World.ownsRow_nil _ _ _ _, by simp [DRs], by simp, ⟨fun i j x y u v b h => by simp at h, fun i x u b h => by simp at h⟩⟩
    | bx hc =>
      obtain ⟨g, vs, k1, k2, k3⟩ := hob
      exact ⟨g, vs, k1, k2, ok hc k3⟩
end
/-! ### the way back from a part -/
mutual
def renV (f : Nat → Nat) : AV → AV
  | .any => .any
  | .lit v => .lit v
  | .row s n nn cells => .row s n nn (renVs f cells)
  | .rptr cells => .rptr (renVs f cells)
  | .own id n => .own (f id) n
  | .optr id n off => .optr (f id) n off
  | .ptr id off => .ptr (f id) off
  | .agg cells => .agg (renVs f cells)
  | .tup cells => .tup (renVs f cells)
  | .fn g cells => .fn g (renVs f cells)
def renVs (f : Nat → Nat) : List AV → List AV
  | [] => []
  | x :: xs => renV f x :: renVs f xs
end

def renD (f : Nat → Nat) : DV → DV
  | .v x => .v (renV f x)
  | .r e s n cells => .r e s n (renVs f cells)
def renO (f : Nat → Nat) : AO → AO
  | .sl e s n nn cells => .sl e s n nn (renVs f cells)
  | .bx e cells => .bx e (renVs f cells)
  | .dp e s n nn cells => .dp e s n nn (cells.map (renD f))
  | .nil e s => .nil e s
  | .gone => .gone

def DV.norow : DV → Bool
  | .v x => YtdaneldckdjjoaaDoorA.norow x
  | .r _ _ _ cells => norows cells
def norowO : AO → Bool
  | .sl _ _ _ _ cells | .bx _ cells => norows cells
  | .dp _ _ _ _ cells => cells.all DV.norow
  | _ => true

def rho (ρ : List Nat) (B j : Nat) : Nat := if j < ρ.length then ρ.getD j 0 else B + (j - ρ.length)

def updH : List AO → List Nat → List AO → List AO
  | H, i :: is, o :: os => updH (H.set i o) is os
  | H, _, _ => H

def mergeH (ρ : List Nat) (H H' : List AO) : List AO :=
  updH H ρ (H'.map (renO (rho ρ H.length))) ++ (H'.drop ρ.length).map (renO (rho ρ H.length))

section
theorem length_updH : ∀ (H : List AO) (is : List Nat) (os : List AO), (updH H is os).length = H.length
  | H, [], _ => by simp [updH]
  | H, _ :: _, [] => by simp [updH]
  | H, i :: is, o :: os => by rw [updH, length_updH]; simp

theorem updH_other : ∀ (H : List AO) (is : List Nat) (os : List AO) (k : Nat), k ∉ is → (updH H is os)[k]? = H[k]?
  | H, [], _, k, _ => by simp [updH]
  | H, _ :: _, [], k, _ => by simp [updH]
  | H, i :: is, o :: os, k, h => by
    simp only [List.mem_cons, not_or] at h
    rw [updH, updH_other _ _ _ _ h.2, List.getElem?_set_ne (Ne.symm h.1)]

theorem updH_at : ∀ (H : List AO) (is : List Nat) (os : List AO) (j i : Nat) (o : AO), is.Nodup → is[j]? = some i → os[j]? = some o → i < H.length → (updH H is os)[i]? = some o
  | H, [], _, j, i, o, _, h, _, _ => by simp at h
  | H, _ :: _, [], j, i, o, _, _, h, _ => by simp at h
  | H, i' :: is, o' :: os, 0, i, o, hn, h1, h2, hlt => by
    simp at h1 h2
    subst h1; subst h2
    rw [updH, updH_other _ _ _ _ (List.nodup_cons.1 hn).1]
    simp [hlt]
  | H, i' :: is, o' :: os, j + 1, i, o, hn, h1, h2, hlt => by
    simp only [List.getElem?_cons_succ] at h1 h2
    rw [updH]
    exact updH_at _ _ _ j i o (List.nodup_cons.1 hn).2 h1 h2 (by simpa using hlt)
end

section
variable {R R1 R' F : Nat → Prop} {A A1 A' : Nat → Value} {H H1 H' : List AO} {w w' : World}

theorem renO_same (f : Nat → Nat) (o : AO) : (renO f o).len = o.len ∧ (renO f o).kind = o.kind ∧ (renO f o = .gone ↔ o = .gone) := by cases o <;> simp [renO, AO.len, AO.kind]
theorem renD_isR (f : Nat → Nat) (x : DV) : (renD f x).isR = x.isR := by cases x <;> rfl
theorem renO_rAt (f : Nat → Nat) (o : AO) (i : Nat) : (renO f o).rAt i = o.rAt i := by
  cases o with
  | dp e s n nn cells =>
    simp only [renO, AO.rAt, List.getElem?_map]
    cases cells[i]? with
    | none => rfl
    | some d => simp [renD_isR]
  | _ => rfl
theorem renO_foot {f : Nat → Nat} {o : AO} {w : World} {c : Value} {b : Nat} : foot w c (renO f o) b ↔ foot w c o b := by
  unfold foot
  simp only [renO_rAt]

mutual
theorem VR.ren {f : Nat → Nat} {rows : Bool} (hr : rows = true → ∀ b, R1 b → R' b) (hf : ∀ j o, H1[j]? = some o → H'[f j]? = some (renO f o) ∧ A' (f j) = A1 j) :
    ∀ (x : AV) (c : Value), (rows = true ∨ norow x = true) → VR R1 A1 H1 w x c → VR R' A' H' w (renV f x) c
  | .any, _, _, _ => by simp [renV, VR]
  | .lit v, c, _, h => by simpa [renV, VR] using h
  | .row size n nn cells, c, hn, h => by
    have hn' : rows = true := hn.resolve_right (by simp [norow])
    simp only [renV, VR] at h ⊢
    rcases h with ⟨h1, h2, h3, h4⟩ | ⟨a, cap, vs, h1, h2, h4, h5, h6, h7⟩
    · subst h3; exact .inl ⟨h1, h2, rfl, h4⟩
    · exact .inr ⟨a, cap, vs, h1, fun z => ⟨hr hn' _ (h2 z).1, (h2 z).2⟩, h4, h5, VRs.ren hr hf cells vs (.inl hn') h6, h7⟩
  | .rptr cells, c, hn, h => by
    have hn' : rows = true := hn.resolve_right (by simp [norow])
    simp only [renV, VR] at h ⊢
    obtain ⟨a, vs, h1, h2, h3, h6, h7⟩ := h
    exact ⟨a, vs, h1, hr hn' _ h2, h3, VRs.ren hr hf cells vs (.inl hn') h6, h7⟩
  | .own id n, c, _, h => by
    simp only [renV, VR] at h ⊢
    obtain ⟨o, h1, h2, h3⟩ := h
    obtain ⟨k1, k2⟩ := hf id o h1
    obtain ⟨q1, q2, q3⟩ := renO_same f o
    refine ⟨_, k1, h2, ?_⟩
    rw [q1, q2, k2]
    exact h3.imp q3.2 (fun h => h)
  | .optr id n off, c, _, h => by
    simp only [renV, VR] at h ⊢
    obtain ⟨o, g, h1, h2, h3⟩ := h
    obtain ⟨k1, k2⟩ := hf id o h1
    obtain ⟨q1, q2, q3⟩ := renO_same f o
    refine ⟨_, g, k1, h2, ?_⟩
    rw [q1, q2, k2]
    exact h3.imp q3.2 (fun h => h)
  | .ptr id off, c, _, h => by
    simp only [renV, VR] at h ⊢
    obtain ⟨o, g, h1, h2, h3⟩ := h
    obtain ⟨k1, k2⟩ := hf id o h1
    obtain ⟨q1, q2, q3⟩ := renO_same f o
    refine ⟨_, g, k1, h2, ?_⟩
    rw [q2, k2]
    exact h3.imp q3.2 (fun h => h)
  | .agg cells, c, hn, h => by
    simp only [norow] at hn
    simp only [renV, VR] at h ⊢
    obtain ⟨vs, h1, h2⟩ := h
    exact ⟨vs, VRs.ren hr hf cells vs hn h1, h2⟩
  | .tup cells, c, hn, h => by
    simp only [norow] at hn
    simp only [renV, VR] at h ⊢
    obtain ⟨vs, h1, h2⟩ := h
    exact ⟨vs, VRs.ren hr hf cells vs hn h1, h2⟩
  | .fn g cells, c, hn, h => by
    simp only [norow] at hn
    simp only [renV, VR] at h ⊢
    obtain ⟨vs, h1, h2⟩ := h
    exact ⟨vs, VRs.ren hr hf cells vs hn h1, h2⟩
theorem VRs.ren {f : Nat → Nat} {rows : Bool} (hr : rows = true → ∀ b, R1 b → R' b) (hf : ∀ j o, H1[j]? = some o → H'[f j]? = some (renO f o) ∧ A' (f j) = A1 j) :
    ∀ (xs : List AV) (vs : List Value), (rows = true ∨ norows xs = true) → VRs R1 A1 H1 w xs vs → VRs R' A' H' w (renVs f xs) vs
  | [], [], _, _ => by simp [renVs, VRs]
  | x :: xs, v :: vs, hn, h => by
    simp only [norows, Bool.and_eq_true] at hn
    simp only [VRs] at h
    simp only [renVs, VRs]
    exact ⟨VR.ren hr hf x v (hn.imp id (·.1)) h.1, VRs.ren hr hf xs vs (hn.imp id (·.2)) h.2⟩
  | [], _ :: _, _, h => by simp [VRs] at h
  | _ :: _, [], _, h => by simp [VRs] at h
end

theorem OInv.heap {c : Value} {o : AO} (hb : ∀ b, foot w c o b → w'.heap[b]? = w.heap[b]?) (hv : ∀ xs vs, VRs R A H w xs vs → VRs R' A' H' w' xs vs) (k : OInv R A H w c o) : OInv R' A' H' w' c o := k.go hb hv
theorem Apart.ren {f : Nat → Nat} {c : Value} {cells : List DV} {vs : List Value} (h : Apart c cells vs) : Apart c (cells.map (renD f)) vs := by
  have back : ∀ (i : Nat) (x : DV), (cells.map (renD f))[i]? = some x → x.isR = true → ∃ y, cells[i]? = some y ∧ y.isR = true := by
    intro i x h1 h2
    rw [List.getElem?_map] at h1
    obtain ⟨y, h3, h4⟩ := Option.map_eq_some_iff.1 h1
    exact ⟨y, h3, by rw [← renD_isR f, h4]; exact h2⟩
  refine ⟨fun i j x y u v b h1 h2 h3 h4 h5 h6 h7 h8 => ?_, fun i x u b h1 h2 h3 h4 => ?_⟩
  · obtain ⟨x', k1, k2⟩ := back i x h1 h3
    obtain ⟨y', k3, k4⟩ := back j y h2 h4
    exact h.1 i j x' y' u v b k1 k3 k2 k4 h5 h6 h7 h8
  · obtain ⟨x', k1, k2⟩ := back i x h1 h2
    exact h.2 i x' u b k1 k2 h3 h4

/-- Behind a call over a part: the caller's ground again. 'l': what was not in the part was lent (then rows do not come back), else it was kept apart. -/
theorem part_back {l : Bool} {ρ : List Nat} {H0 : List AO} {r : AV} {v : Value} (hi : Inv R F A H w) (hnd : ρ.Nodup) (hs : SubH l ρ H ρ H0)
    (hi1 : Inv R1 (FL l F ρ A H w) A1 H1 w') (hst : Stp H0.length (RL l R ρ A H w) (FL l F ρ A H w) (fun j => A (ρ.getD j 0)) H0 w R1 A1 H1 w') (hv : VR R1 A1 H1 w' r v)
    (hrow : l = false ∨ (norow r = true ∧ H1.all norowO = true)) :
    ∃ R' A', Inv R' F A' (mergeH ρ H H1) w' ∧ VR R' A' (mergeH ρ H H1) w' (renV (rho ρ H.length) r) v ∧ Stp H.length R F A H w R' A' (mergeH ρ H H1) w' ∧
      (∀ (i : Nat) (o : AO), i ∉ ρ → H[i]? = some o → (mergeH ρ H H1)[i]? = some o ∧ A' i = A i) ∧ (l = true → R' = R) := by
  let f := rho ρ H.length
  let A2 : Nat → Value := fun i => if i < H.length then (if i ∈ ρ then A1 (ρ.idxOf i) else A i) else A1 (ρ.length + (i - H.length))
  let R2 : Nat → Prop := if l then R else R1
  have hlen : ρ.length = H0.length := hs.length
  have hlt : ∀ j i, ρ[j]? = some i → i < H.length := fun j i hj => by
    obtain ⟨o, o0, h1, _⟩ := hs.get j i hj; exact (List.getElem?_eq_some_iff.1 h1).1
  have hge : ρ.length ≤ H1.length := by
    rw [hlen]
    rcases Nat.eq_zero_or_pos H0.length with h0 | h0
    · omega
    · have hj : H0.length - 1 < H0.length := by omega
      obtain ⟨o', h1, _⟩ := hst.ext (H0.length - 1) _ hj (List.getElem?_eq_getElem hj)
      have := (List.getElem?_eq_some_iff.1 h1).1
      omega
  -- where the part's objects lie now
  have hf : ∀ j o, H1[j]? = some o → (mergeH ρ H H1)[f j]? = some (renO f o) ∧ A2 (f j) = A1 j := by
    intro j o hj
    by_cases hlj : j < ρ.length
    · have e1 : ρ[j]? = some ρ[j] := by simp [hlj]
      have e2 : f j = ρ[j] := by simp [f, rho, hlj, List.getD_eq_getElem?_getD]
      have hB := hlt j _ e1
      refine ⟨?_, ?_⟩
      · rw [e2]
        unfold mergeH
        rw [List.getElem?_append_left (by rw [length_updH]; exact hB)]
        exact updH_at _ _ _ j _ _ hnd e1 (by simp [hj, f]) hB
      · rw [e2]
        simp only [A2, if_pos hB]
        rw [if_pos (List.getElem_mem hlj), hnd.idxOf_getElem]
    · have e2 : f j = H.length + (j - ρ.length) := by simp only [f, rho, if_neg hlj]
      refine ⟨?_, ?_⟩
      · rw [e2]
        unfold mergeH
        rw [List.getElem?_append_right (by rw [length_updH]; omega), length_updH, Nat.add_sub_cancel_left, List.getElem?_map, List.getElem?_drop]
        have : ρ.length + (j - ρ.length) = j := by omega
        rw [this, hj]
        rfl
      · rw [e2]
        simp only [A2]
        rw [if_neg (by omega)]
        congr 1
        omega
  have hold : ∀ i o, i ∉ ρ → H[i]? = some o → (mergeH ρ H H1)[i]? = some o ∧ A2 i = A i := by
    intro i o hn hi'
    have hB := (List.getElem?_eq_some_iff.1 hi').1
    refine ⟨?_, ?_⟩
    · unfold mergeH
      rw [List.getElem?_append_left (by rw [length_updH]; exact hB), updH_other _ _ _ _ hn]
      exact hi'
    · simp only [A2, if_pos hB, if_neg hn]
  have hsplit : ∀ i o, (mergeH ρ H H1)[i]? = some o → (i ∉ ρ ∧ H[i]? = some o) ∨ ∃ j p, H1[j]? = some p ∧ i = f j ∧ o = renO f p := by
    intro i o hio
    by_cases hB : i < H.length
    · by_cases hm : i ∈ ρ
      · obtain ⟨j, hj⟩ := List.getElem?_of_mem hm
        have hjl := (List.getElem?_eq_some_iff.1 hj).1
        have hj1 : j < H1.length := by omega
        have := hf j _ (List.getElem?_eq_getElem hj1)
        have e2 : f j = i := by simp only [f, rho, if_pos hjl, List.getD_eq_getElem?_getD, hj]; rfl
        rw [e2, hio] at this
        exact .inr ⟨j, _, List.getElem?_eq_getElem hj1, e2.symm, by simpa using this.1⟩
      · unfold mergeH at hio
        rw [List.getElem?_append_left (by rw [length_updH]; exact hB), updH_other _ _ _ _ hm] at hio
        exact .inl ⟨hm, hio⟩
    · unfold mergeH at hio
      rw [List.getElem?_append_right (by rw [length_updH]; omega), length_updH, List.getElem?_map, List.getElem?_drop] at hio
      cases hq : H1[ρ.length + (i - H.length)]? with
      | none => rw [hq] at hio; simp at hio
      | some p =>
        rw [hq] at hio
        simp only [Option.map_some, Option.some.injEq] at hio
        refine .inr ⟨_, p, hq, ?_, hio.symm⟩
        simp only [f, rho]
        rw [if_neg (by omega)]
        omega
  have hRR : ∀ b, RL l R ρ A H w b → R1 b := hst.rr
  have hR2 : ∀ b, R b → R2 b := by
    intro b hb
    simp only [R2]
    split
    · exact hb
    · exact hRR b (.inl hb)
  have hkeepR : ∀ b, R b → w'.heap[b]? = w.heap[b]? := fun b hb => hst.keep b (.inl (.inl hb))
  have hblkold : ∀ i o b, i ∉ ρ → H[i]? = some o → o ≠ .gone → foot w (A i) o b → RL l R ρ A H w b ∨ FL l F ρ A H w b := by
    intro i o b h1 h2 h3 h4
    cases hl : l with
    | true => exact .inl (.inr ⟨rfl, i, o, h1, h2, h3, h4⟩)
    | false => exact .inr (.inr ⟨rfl, i, o, h1, h2, h3, h4⟩)
  have hback : ∀ i o b, i ∉ ρ → H[i]? = some o → o ≠ .gone → foot w' (A i) o b → foot w (A i) o b := fun i o b h1 h2 h3 h4 =>
    foot_keep (fun b hb => hst.keep b (hblkold i o b h1 h2 h3 (.inl hb))) h4
  have hext : Ext H.length A H A2 (mergeH ρ H H1) := by
    intro i o hB hio
    by_cases hm : i ∈ ρ
    · obtain ⟨j, hj⟩ := List.getElem?_of_mem hm
      have hjl := (List.getElem?_eq_some_iff.1 hj).1
      obtain ⟨o1, o0, h1, h2, h3⟩ := hs.get j i hj
      rw [hio] at h1; cases h1
      obtain ⟨p, h4, h5⟩ := hst.ext j o0 (by omega) h2
      obtain ⟨k1, k2⟩ := hf j p h4
      have e2 : f j = i := by simp only [f, rho, if_pos hjl, List.getD_eq_getElem?_getD, hj]; rfl
      rw [e2] at k1 k2
      obtain ⟨q1, q2, q3⟩ := renO_same f p
      obtain ⟨s1, s2, s3⟩ := h3.same
      refine ⟨_, k1, ?_⟩
      rcases h5 with h5 | ⟨h5, h6, h7⟩
      · exact .inl (q3.2 h5)
      · refine .inr ⟨by omega, by rw [q2, ← h6, s2], fun e => ?_⟩
        rw [k2, h7 (by omega)]
        simp [List.getD_eq_getElem?_getD, hj]
    · obtain ⟨k1, k2⟩ := hold i o hm hio
      exact ⟨o, k1, .inr ⟨Nat.le_refl _, rfl, fun _ => k2⟩⟩
  have hold' : ∀ xs vs, VRs R A H w xs vs → VRs R2 A2 (mergeH ρ H H1) w' xs vs := VRs.mono hR2 hkeepR hext
  have hrows : (!l) = true → ∀ b, R1 b → R2 b := by
    intro h b hb
    simp only [R2]
    cases l <;> simp_all
  have hnorow : ∀ (j : Nat) (p : AO), H1[j]? = some p → ((!l) = true ∨ norowO p = true) := by
    intro j p hp
    rcases hrow with h | ⟨_, h⟩
    · exact .inl (by rw [h]; rfl)
    · exact .inr (List.all_eq_true.1 h p (List.mem_of_getElem? hp))
  refine ⟨R2, A2, ⟨?_, ?_, ?_, ?_, ?_, ?_, hi.tab.mono hR2 (fun b hb => hst.keep b (.inl (.inl hb)))⟩, ?_, ⟨hR2, fun b hb => hst.keep b (hb.imp .inl .inl), hext, hst.os, hst.tape, hst.output, hst.size⟩, hold, fun h => by simp only [R2, h, if_true]⟩
  · intro b hb
    simp only [R2] at hb
    split at hb
    · exact hi.rf b hb
    · exact fun h => hi1.rf b hb (.inl h)
  · intro b hb
    simp only [R2] at hb
    split at hb
    · exact Nat.lt_of_lt_of_le (hi.rlt b hb) hst.size
    · exact hi1.rlt b hb
  · intro b hb; exact Nat.lt_of_lt_of_le (hi.flt b hb) hst.size
  · intro i o b hio hg hb
    rcases hsplit i o hio with ⟨h1, h2⟩ | ⟨j, p, h1, rfl, rfl⟩
    · rw [(hold i o h1 h2).2] at hb
      have hb := hback i o b h1 h2 hg hb
      have := hi.own i o b h2 hg hb
      refine ⟨?_, this.2⟩
      intro hr
      simp only [R2] at hr
      split at hr
      · exact this.1 hr
      · rename_i hl
        exact hi1.rf b hr (.inr ⟨by simpa using hl, i, o, h1, h2, hg, hb⟩)
    · obtain ⟨k1, k2⟩ := hf j p h1
      rw [k2] at hb
      have := hi1.own j p b h1 (fun e => hg ((renO_same f p).2.2.2 e)) (renO_foot.1 hb)
      refine ⟨?_, fun h => this.2 (.inl h)⟩
      intro hr
      simp only [R2] at hr
      split at hr
      · exact this.1 (hRR b (.inl hr))
      · exact this.1 hr
  · intro i i' p q b hp hq hgp hgq hb hc
    rcases hsplit i p hp with ⟨h1, h2⟩ | ⟨j, p', h1, rfl, rfl⟩ <;> rcases hsplit i' q hq with ⟨k1, k2⟩ | ⟨j', q', k1, rfl, rfl⟩
    · rw [(hold i p h1 h2).2] at hb
      rw [(hold i' q k1 k2).2] at hc
      exact hi.inj i i' p q b h2 k2 hgp hgq (hback i p b h1 h2 hgp hb) (hback i' q b k1 k2 hgq hc)
    · rw [(hold i p h1 h2).2] at hb
      rw [(hf j' q' k1).2] at hc
      have := hi1.own j' q' b k1 (fun e => hgq ((renO_same f q').2.2.2 e)) (renO_foot.1 hc)
      rcases hblkold i p b h1 h2 hgp (hback i p b h1 h2 hgp hb) with h | h
      · exact absurd (hRR b h) this.1
      · exact absurd h this.2
    · rw [(hf j p' h1).2] at hb
      rw [(hold i' q k1 k2).2] at hc
      have := hi1.own j p' b h1 (fun e => hgp ((renO_same f p').2.2.2 e)) (renO_foot.1 hb)
      rcases hblkold i' q b k1 k2 hgq (hback i' q b k1 k2 hgq hc) with h | h
      · exact absurd (hRR b h) this.1
      · exact absurd h this.2
    · rw [(hf j p' h1).2] at hb
      rw [(hf j' q' k1).2] at hc
      rw [hi1.inj j j' p' q' b h1 k1 (fun e => hgp ((renO_same f p').2.2.2 e)) (fun e => hgq ((renO_same f q').2.2.2 e)) (renO_foot.1 hb) (renO_foot.1 hc)]
  · intro i o hio
    rcases hsplit i o hio with ⟨h1, h2⟩ | ⟨j, p, h1, rfl, rfl⟩
    · rw [(hold i o h1 h2).2]
      by_cases hg : o = .gone
      · subst hg; trivial
      · refine OInv.heap (fun b hb => ?_) hold' (hi.obj i o h2)
        exact hst.keep b (hblkold i o b h1 h2 hg hb)
    · rw [(hf j p h1).2]
      have hob := hi1.obj j p h1
      have hn := hnorow j p h1
      cases p with
      | gone => trivial
      | nil e s => exact hob
      | sl e size n nn cells =>
        obtain ⟨vs, q1, q2, q3⟩ := hob
        exact ⟨vs, q1, VRs.ren hrows hf cells vs hn q2, q3⟩
      | bx e cells =>
        obtain ⟨g, vs, q1, q2, q3⟩ := hob
        exact ⟨g, vs, q1, q2, VRs.ren hrows hf cells vs hn q3⟩
      | dp e size n nn cells =>
        obtain ⟨vs, q1, q2, q3, q4⟩ := hob
        refine ⟨vs, q1, ?_, q3, q4.ren⟩
        have go : ∀ {xs : List DV} {us : List Value}, ((!l) = true ∨ xs.all DV.norow = true) → DRs R1 A1 H1 w' xs us → DRs R2 A2 (mergeH ρ H H1) w' (xs.map (renD f)) us := by
          intro xs
          induction xs with
          | nil => intro us _ h; cases us <;> simp_all [DRs]
          | cons x xs ih =>
            intro us hn h
            cases us with
            | nil => simp [DRs] at h
            | cons u us =>
              simp only [DRs] at h
              simp only [List.all_cons, Bool.and_eq_true] at hn
              simp only [List.map_cons, DRs]
              refine ⟨?_, ih (hn.imp id (·.2)) h.2⟩
              cases x with
              | v x => exact VR.ren hrows hf x u (hn.imp id (·.1)) h.1
              | r e' s' n' cs' =>
                obtain ⟨ws, k1, k2⟩ := h.1
                exact ⟨ws, k1, VRs.ren hrows hf cs' ws (hn.imp id (·.1)) k2⟩
        exact go hn q2
  · exact VR.ren hrows hf r v (hrow.imp (fun h => by rw [h]; rfl) (·.1)) hv
end
end Go.Proofs.YtdaneldckdjjoaaDoorA
