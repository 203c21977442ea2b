/- What this session's printed texts use beside the print's own words: a call through a function value. -/
import Derived.Test.YtdaneldckdjjoaaDoorProg
import Derived.Test.YtdaneldckdjjoaaDoorWLast
import Derived.Test.YtdaneldckdjjoaaDoorWMore
import Derived.WalkKit
import Derived.Lib.LazyBuf
namespace Go.Proofs.YtdaneldckdjjoaaDoorM
open Go.RowKit Go.Proofs.YtdaneldckdjjoaaDoorW.PrintWords Go.Proofs.YtdaneldckdjjoaaDoorW.PrintLast
set_option linter.unusedVariables false

/-! What a walk does again and again with what its function's answer is: lemmas whose last part is found by a proof of its own. -/
section
variable {P Q C G K : Prop}
theorem iN {α : Type} {c : Prop} [Decidable c] {x : Option α} {r : α} : ((if c then x else none) = some r) = (c ∧ x = some r) := propext Option.ite_none_right_eq_some
theorem iP {α : Type} {c : Prop} [Decidable c] {x : Option α} {r : α} : ((if c then none else x) = some r) = (¬ c ∧ x = some r) := propext Option.ite_none_left_eq_some
theorem bS {α β : Type} (a : α) (f : α → Option β) : (some a).bind f = f a := rfl
theorem hS : (∀ (p : Prop) [Decidable p], (decide p = true) = p) ∧ (∀ (p : Prop) [Decidable p], (decide p = false) = ¬ p) ∧ (∀ b : Bool, ((!b) = true) = (b = false)) ∧ (∀ b : Bool, ((!b) = false) = (b = true)) ∧ (∀ b : Bool, (¬ b = true) = (b = false)) ∧ (∀ b : Bool, (¬ b = false) = (b = true)) ∧ (∀ (p : Prop) [Decidable p], (¬ ¬ p) = p) :=
  ⟨fun p _ => propext decide_eq_true_iff, fun p _ => propext decide_eq_false_iff_not, fun b => by cases b <;> simp, fun b => by cases b <;> simp, fun b => by cases b <;> simp, fun b => by cases b <;> simp, fun p _ => propext Decidable.not_not⟩
theorem hE {α : Type} [BEq α] [LawfulBEq α] : (∀ a b : α, ((a == b) = true) = (a = b)) ∧ (∀ a b : α, ((a != b) = true) = (a ≠ b)) ∧ (∀ a b : α, ((a == b) = false) = (a ≠ b)) ∧ (∀ a b : α, ((a != b) = false) = (a = b)) :=
  ⟨fun a b => propext beq_iff_eq, fun a b => propext bne_iff_ne, fun a b => propext beq_eq_false_iff_ne, fun a b => propext bne_eq_false_iff_eq⟩
theorem hT : ((!false) = true) ∧ ((!true) = false) ∧ ((false = true) = False) ∧ (∀ (α : Type) (a b : α), (if True then a else b) = a) ∧ (∀ (α : Type) (a b : α), (if False then a else b) = b) := ⟨rfl, rfl, by simp, fun _ _ _ => rfl, fun _ _ _ => rfl⟩
theorem DD (b : C) (e : C → False := by
    intro hb
    first | (cases hb; done) | contradiction | (simp_all; done) | (exfalso; (try simp only [decide_eq_true_eq, decide_eq_false_iff_not, Bool.not_eq_true', Bool.not_eq_false', Bool.not_eq_true, Bool.not_eq_false, beq_iff_eq, bne_iff_ne, beq_eq_false_iff_ne, bne_eq_false_iff_eq, ne_eq, Decidable.not_not] at hb); omega) | (exfalso; simp_all; omega)) : G := (e b).elim
theorem LV (h : P) (e : P → C := by
    intro h
    first | exact congrArg Go.Value.bool (Option.some.inj h) | (cases h; rfl) | (simp at h ⊢; exact h) | (simp at h; subst h; rfl) | (simp_all; done)) : C := e h
end

/-- A row that is nil where it is empty. -/
def NilQ {α : Type} (l : List α) (v : Value) : Prop := l = [] → v = .slice none 0 0
theorem NilQ.app {α : Type} {l : List α} {v : Value} (h : NilQ l v) (e : l = []) : v = .slice none 0 0 := h e
theorem NilQ.nil {α : Type} {l : List α} : NilQ l (.slice none 0 0) := fun _ => rfl
theorem NilQ.not {α : Type} {l : List α} {v : Value} (h : ¬ l = []) : NilQ l v := fun e => absurd e h
/-- A function value is called with these arguments; what it has captured comes behind them. -/
def CallsV (P : Program) (fv : Value) (args : Array Value) (w : World) (R : Ending → World → Prop) : Prop :=
  ∃ (f : FuncId) (first cap : Array Value) (fn : Func), fv = .func (.func f) first cap ∧ P.funcs[f]? = some fn ∧ (fn.name == "runtime.NumGoroutine") = false ∧ fn.body.isSome = true ∧ Calls P f (first ++ args ++ cap) w R
theorem CallsV.mono {P : Program} {fv : Value} {args : Array Value} {w : World} {R R' : Ending → World → Prop} (h : CallsV P fv args w R) (k : ∀ e w', R e w' → R' e w') : CallsV P fv args w R' := by
  obtain ⟨f, first, cap, fn, h1, h2, h3, h4, h5⟩ := h
  exact ⟨f, first, cap, fn, h1, h2, h3, h4, h5.mono k⟩
theorem CallsV.of {P : Program} {f : FuncId} {fn : Func} {cap args : Array Value} {w : World} {R : Ending → World → Prop} (h1 : P.funcs[f]? = some fn) (h2 : (fn.name == "runtime.NumGoroutine") = false) (h3 : fn.body.isSome = true) (h : Calls P f (#[] ++ args ++ cap) w R) : CallsV P (.func (.func f) #[] cap) args w R :=
  ⟨f, #[], cap, fn, rfl, h1, h2, h3, h⟩
section
variable {P : Program} {ops : Array Oper} {rest : List Oper} {oi : Oper} {a : Act} {Q : Exit → Act → World → Prop} {w : World}
/-- The operation calls a value that lies in a place. -/
theorem gate_value {N : Nat} {x : Tmp} {as_ : Array Operand} {ts : Array TypeId} (_hd : oi.dst = some N) (_ho : oi.op = .call { callee := .value (.tmp x), args := as_, argTypes := ts }) (h : wpList P ops Q (oi :: rest) a w) : wpList P ops Q (oi :: rest) a w := h
/-- A call through a function value, in a plain region. -/
theorem goesV_ (N : Option Tmp) (hd : oi.dst = N) (hg : oi.guard = none) (args : Array Value) {x : Operand} {as_ : Array Operand} {ts : Array TypeId} {fv : Value}
    (hop : oi.op = .call { callee := .value x, args := as_, argTypes := ts }) (hx : a.eval x = fv) (hargs : as_.map a.eval = args)
    (h : CallsV P fv args w fun e w' => ∃ v, e = .returned v ∧ wpList P ops Q rest (a.put N v) w') : wpList P ops Q (oi :: rest) a w := by
  obtain ⟨f, first, cap, fn, rfl, hf, hname, hb, h⟩ := h
  refine wpList_plain hg fun K hK => ?_
  have he := enters_ hf hname hb (first ++ args ++ cap) w
  have hrun : (execOp a.eval oi).run P w = .ok (.enter f (first ++ args ++ cap)) w := by
    unfold execOp
    simp [hop, resolve, hx, Deferred.ofValue, invoke, hargs]
    simpa using he
  unfold Oper.wp
  rw [hrun, Oper.upon_enter]
  refine h.mono fun e w'' hh => ?_
  obtain ⟨v, rfl, hk⟩ := hh
  subst hd
  exact hK _ _ hk
end
end Go.Proofs.YtdaneldckdjjoaaDoorM
