-- Written by a program of this session's (wip/myprint2): the functions by the kit's print, the walks by awgen.py. Lean checks it.
import Derived.Test.YtboaffpfphkneaaPFnExactMeetOfBiordersx0
import Derived.Test.YtboaffpfphkneaaPFnExactMeetOfBiordersx4
import Derived.Test.YtboaffpfphkneaaPFnExactMeetOfBiordersx5
namespace Go.Proofs.Ytboaffpfphkneaa.PFnExactMeetOfBiorders
open Go.RowKit Go.Proofs.YtboaffpfphkneaaW.PrintWords Go.Proofs.YtboaffpfphkneaaW.PrintLast Go.Proofs.YtboaffpfphkneaaW.PrintMore Go.Proofs.YtboaffpfphkneaaM Go.Proofs.YtboaffpfphkneaaA
attribute [local go_sem] max2_int min2_int max_two min_two max_three min_three max_four min_four   -- for this text's walks alone
set_option linter.unusedVariables false
set_option linter.unusedSimpArgs false

/-! ### impl_Table_split_1: function 36 -/
mutual
def impl_Table_split_1.l0 : Nat → Int → Int → List Int → List Int → Int → List Int → Int → Option (Option (List Int))
 | 0, _, _, _, _, _, _, _ => none
 | k + 1, a0, a1, l0, cs, many, ns, x17 => if x17 < many then ((slices_Clone_int_int.f ns).bind fun c => (if c.length < 17592186044416 then ((impl_cellsWith.f k cs (c ++ [x17]) x17).bind fun t => ((impl_Table_freeOrder.f k a0 a1 l0 t).bind fun fo => (if fo = [] then (impl_Table_split_1.l0 k a0 a1 l0 cs many ns (wrap64 (x17 + 1))) else ((impl_Table_split_1.f k a0 a1 l0 cs many (c ++ [x17])).bind fun r => (match r with | some y => some (some y) | none => impl_Table_split_1.l0 k a0 a1 l0 cs many ns (wrap64 (x17 + 1))))))) else none)) else some none
def impl_Table_split_1.f : Nat → Int → Int → List Int → List Int → Int → List Int → Option (Option (List Int))
 | 0, _, _, _, _, _, _ => none
 | k + 1, a0, a1, l0, cs, many, ns => if (ns.length : Int) = (cs.length : Int) then some (some ns) else impl_Table_split_1.l0 k a0 a1 l0 cs many ns 0
end
theorem impl_Table_split_1.T3 : Ty Try.prog 3 1 8 (.int .i64 0) := .of (by kernel_rfl)
theorem impl_Table_split_1.T22 : Ty Try.prog 22 1 24 (.slice none 0 0) := .of (by kernel_rfl)
theorem impl_Table_split_1.T28 : Ty Try.prog 29 3 40 (.agg #[.int .i64 0, .int .i64 0, .slice none 0 0]) := .of (by kernel_rfl)
theorem impl_Table_split_1.T62 : Ty Try.prog 45 1 8 .nilFunc := .of (by kernel_rfl)
theorem impl_Table_split_1.HMx : Try.prog.follows .mixedOrders = true := by kernel_rfl
set_option maxRecDepth 100000 in
set_option maxHeartbeats 20000000 in
theorem impl_Table_split_1.ac : ∀ (k : Nat) (a0_0 a0_1 : Int) (l0_2 cs : List Int) (many : Int) (ns : List Int) (r : Option (List Int)) (_ : impl_Table_split_1.f k a0_0 a0_1 l0_2 cs many ns = some r),
  ACalls Try.prog 36 [.own 4 ns.length, .ptr 0 0, .ptr 1 0, .ptr 2 0, .ptr 3 0] [.bx 22 [.row 1 cs.length false (ints .i64 cs)], .bx 3 [.lit (.int .i64 many)], .bx 29 [.lit (.int .i64 a0_0), .lit (.int .i64 a0_1), .row 1 l0_2.length false (ints .i64 l0_2)], .bx 45 [.fn 36 [.ptr 0 0, .ptr 1 0, .ptr 2 0, .ptr 3 0]], .sl 3 1 ns.length true (ints .i64 ns)]
   (fun v H' => match (generalizing := false) r with | none => v = .lit (.slice none 0 0) ∧ H' = [.bx 22 [.row 1 cs.length false (ints .i64 cs)], .bx 3 [.lit (.int .i64 many)], .bx 29 [.lit (.int .i64 a0_0), .lit (.int .i64 a0_1), .row 1 l0_2.length false (ints .i64 l0_2)], .bx 45 [.fn 36 [.ptr 0 0, .ptr 1 0, .ptr 2 0, .ptr 3 0]], .gone] | some y => v = .own 5 y.length ∧ H' = [.bx 22 [.row 1 cs.length false (ints .i64 cs)], .bx 3 [.lit (.int .i64 many)], .bx 29 [.lit (.int .i64 a0_0), .lit (.int .i64 a0_1), .row 1 l0_2.length false (ints .i64 l0_2)], .bx 45 [.fn 36 [.ptr 0 0, .ptr 1 0, .ptr 2 0, .ptr 3 0]], .gone, .sl 3 1 y.length true (ints .i64 y)]) := by
 intro k
 induction k using Nat.strongRecOn with
 | _ k ih =>
 intro a0_0 a0_1 l0_2 cs many ns r h
 cases k with
 | zero => exact absurd h (by simp [impl_Table_split_1.f])
 | succ k =>
 refine ACalls.ofP [6] Try.func36 rfl (by exact Nat.le_of_ble_eq_true rfl) rfl (by decide) ?_
 simp only [Try.ntmps36, env0, impl_Table_split_1.f] at h ⊢
 refine AWp.seq ?_
 refine AWp.region ?_
 refine L.Y Y.asg ?_
 refine AList.nil ?_
 refine AWp.seq ?_
 refine AWp.seq ?_
 refine AWp.region ?_
 refine L.Y Y.mv ?_
 refine L.Y (Y.ln Try.underlying22) ?_
 refine L.S (S.ld Try.underlying22) ?_
 refine L.Y (Y.ln Try.underlying22) ?_
 refine L.Y Y.bin ?_
 refine AList.nil ?_
 refine W.cond (fun hb => ?_) (fun hb => ?_)
 ·
  simp only [beq_iff_eq] at hb
  rw [if_pos hb] at h
  obtain rfl := Option.some.inj h
  refine AWp.seq ?_
  refine AWp.region ?_
  refine L.Y Y.mv ?_
  refine L.Y Y.asg ?_
  refine AList.nil ?_
  refine AWp.ret ?_
  exact ⟨.inr rfl, [(6, _)], _, ⟨rfl, rfl⟩, IsPart.at [(0, 0)] [0, 1, 2, 3, 5, 4] base5 (H.c (H.c (H.c (H.c (H.c (H.c .nil)))))) (E.c .nil)⟩
 simp only [beq_eq_false_iff_ne, ne_eq] at hb
 rw [if_neg hb] at h
 refine AWp.skip ?_
 refine AWp.seq ?_
 refine AWp.seq ?_
 refine W.kp [0, 1, 2, 3, 4] ?_
 refine AWp.region ?_
 refine L.S (S.ld Try.underlying3) ?_
 refine L.Y Y.mv ?_
 refine AList.nil ?_
 refine AWp.block ?_
 refine AWp.loopI (fun kk e H => kk ≤ k ∧ ∃ (x17 : Int), e = [(0, .own 4 ns.length), (1, .ptr 0 0), (2, .ptr 1 0), (3, .ptr 2 0), (4, .ptr 3 0), (16, .lit (.int .i64 many)), (17, .lit (.int .i64 x17))] ∧ H = [.bx 22 [.row 1 cs.length false (ints .i64 cs)], .bx 3 [.lit (.int .i64 many)], .bx 29 [.lit (.int .i64 a0_0), .lit (.int .i64 a0_1), .row 1 l0_2.length false (ints .i64 l0_2)], .bx 45 [.fn 36 [.ptr 0 0, .ptr 1 0, .ptr 2 0, .ptr 3 0]], .sl 3 1 ns.length true (ints .i64 ns)] ∧ impl_Table_split_1.l0 kk a0_0 a0_1 l0_2 cs many ns x17 = some r) (k := k)
  ⟨_, _, ⟨Nat.le_refl _, _, rfl, rfl, h⟩, IsPart.at [] [0, 1, 2, 3, 4] base5 (H.c (H.c (H.c (H.c (H.c .nil))))) (E.c (E.c (E.c (E.c (E.c (E.c (E.c .nil)))))))⟩ ?_
 clear h
 rintro k1 e H ⟨hk1, x17, rfl, rfl, h⟩
 cases k1 with
 | zero => exact absurd h (by simp [impl_Table_split_1.l0])
 | succ k1 =>
 simp only [impl_Table_split_1.l0] at h
 refine AWp.seq ?_
 refine AWp.region ?_
 refine L.Y Y.bin ?_
 refine AList.nil ?_
 refine AWp.seq ?_
 refine W.cond (fun hb => ?_) (fun hb => ?_)
 rotate_left
 ·
  simp only [decide_eq_false_iff_not] at hb
  rw [if_neg hb] at h
  obtain rfl := Option.some.inj h
  refine AWp.exit ?_
  refine AWp.seq ?_
  refine AWp.region ?_
  refine L.Y Y.asg ?_
  refine AList.nil ?_
  refine AWp.ret ?_
  exact ⟨.inr rfl, [(6, _)], _, ⟨rfl, rfl⟩, IsPart.at [(0, 0)] [0, 1, 2, 3, 5] base5 (H.c (H.c (H.c (H.c (H.c .nil))))) (E.c .nil)⟩
 simp only [decide_eq_true_eq] at hb
 rw [if_pos hb] at h
 refine AWp.skip ?_
 refine AWp.seq ?_
 refine AWp.block ?_
 refine AWp.seq ?_
 refine AWp.region ?_
 refine L.Y Y.mv ?_
 refine L.Y Y.asg ?_
 refine AList.nil ?_
 refine AWp.seq ?_
 refine AWp.region ?_
 refine L.Y Y.mv ?_
 obtain ⟨c, hc1, h⟩ := Option.bind_eq_some_iff.1 h
 rw [Option.ite_none_right_eq_some] at h
 obtain ⟨hlim, h⟩ := h
 refine L.C (C.callE (l := true) [] Try.func37 (slices_Clone_int_int.ac _ _ hc1) .nil ?_)
 refine L.Y Y.mv ?_
 refine L.M (M.bs Try.underlying22 impl_Table_split_1.T3) ?_
 refine L.S (S.ap (nn' := true) Try.underlying22 impl_Table_split_1.T3) ?_
 refine L.Y Y.asg ?_
 refine AList.nil ?_
 obtain ⟨t, hc2, h⟩ := Option.bind_eq_some_iff.1 h
 obtain ⟨fo, hc3, h⟩ := Option.bind_eq_some_iff.1 h
 refine AWp.seq ?_
 refine W.kp [0, 1, 2, 3, 4, 7, 8, 16, 17] ?_
 refine AWp.seq ?_
 refine Dt.reg [] [] (.t 0 (.t 1 (.y 2 (.y 3 (.one 4 (.one 5 (.y 6 .done))))))) impl_Table_split_1.HMx ?_
 refine Dt.T rfl wantN (D.ldN Try.underlying29 impl_Table_split_1.T28) ?_
 refine Dt.T rfl wantN (D.ld Try.underlying22) ?_
 refine Dt.Y rfl wantN Y.mv ?_
 refine Dt.Y rfl wantN Y.mv ?_
 refine Dt.O (g' := false) rfl wantN ?_
 refine Ox.C true [] Try.func25 (impl_cellsWith.ac _ _ _ _ _ hc2) .nil ?_
 refine Dt.O (g' := false) rfl wantN ?_
 rcases Classical.em (fo = []) with hq | hq
 ·
  rw [if_pos hq] at h
  refine Ox.C true [] Try.func24 ((impl_Table_freeOrder.acq _ _ _ _ _ _ hc3).conseq (fun _ _ q => q.elim (fun z => z.2) (fun z => absurd hq z.1))) .nil ?_
  refine Dt.Y rfl wantN (Y.nq Try.underlying22) ?_
  refine Dt.nil ?_
  refine W.cond (fun hb => ?_) (fun hb => ?_)
  rotate_left
  ·
   exact absurd hb (by decide)
  refine AWp.exit ?_
  refine W.kp [0, 1, 2, 3, 4, 16, 17] ?_
  refine AWp.region ?_
  refine L.Y Y.bin ?_
  refine L.Y Y.mv ?_
  refine AList.nil ?_
  exact ⟨k1, by omega, _, _, ⟨by omega, _, rfl, rfl, h⟩, IsPart.at [] [0, 1, 2, 3, 4] base5 (H.c (H.c (H.c (H.c (H.c .nil))))) (E.c (E.c (E.c (E.c (E.c (E.c (E.c .nil)))))))⟩
 rw [if_neg hq] at h
 refine Ox.C true [] Try.func24 ((impl_Table_freeOrder.acq _ _ _ _ _ _ hc3).conseq (fun _ _ q => q.elim (fun z => absurd z.1 hq) (fun z => z.2))) .nil ?_
 refine Dt.Y rfl wantN (Y.nq Try.underlying22) ?_
 refine Dt.nil ?_
 refine W.cond (fun hb => ?_) (fun hb => ?_)
 ·
  exact absurd hb (by decide)
 refine AWp.skip ?_
 refine AWp.seq ?_
 refine W.kp [0, 1, 2, 3, 4, 8, 16, 17] ?_
 refine AWp.region ?_
 refine L.S (S.ld Try.underlying45) ?_
 refine L.Y Y.mv ?_
 obtain ⟨ro, hc4, h⟩ := Option.bind_eq_some_iff.1 h
 have hR := ih k1 (by omega) _ _ _ _ _ _ _ hc4
 cases ro with
 | none =>
  refine L.C (C.callE (l := false) [0, 1, 2, 3, 5] Try.func36 hR (H.c (H.c (H.c (H.c (H.c .nil))))) ?_)
  refine L.Y Y.asg ?_
  refine AList.nil ?_
  refine AWp.seq ?_
  refine AWp.region ?_
  refine L.Y Y.mv ?_
  refine L.Y (Y.nn (hb := by first | exact rfl | exact (if_pos ⟨rfl, rfl⟩ : (if (true = true) ∧ y.length = y.length then some false else none) = some false)) Try.underlying22) ?_
  refine AList.nil ?_
  refine W.cond (fun hb => ?_) (fun hb => ?_)
  ·
   exact absurd hb (by decide)
  refine AWp.skip ?_
  refine W.kp [0, 1, 2, 3, 4, 16, 17] ?_
  refine AWp.region ?_
  refine L.Y Y.bin ?_
  refine L.Y Y.mv ?_
  refine AList.nil ?_
  exact ⟨k1, by omega, _, _, ⟨by omega, _, rfl, rfl, h⟩, IsPart.at [] [0, 1, 2, 3, 4] base5 (H.c (H.c (H.c (H.c (H.c .nil))))) (E.c (E.c (E.c (E.c (E.c (E.c (E.c .nil)))))))⟩
 | some y =>
  obtain rfl := Option.some.inj h
  refine L.C (C.callE (l := false) [0, 1, 2, 3, 5] Try.func36 hR (H.c (H.c (H.c (H.c (H.c .nil))))) ?_)
  refine L.Y Y.asg ?_
  refine AList.nil ?_
  refine AWp.seq ?_
  refine AWp.region ?_
  refine L.Y Y.mv ?_
  refine L.Y (Y.nn (hb := by first | exact rfl | exact (if_pos ⟨rfl, rfl⟩ : (if (true = true) ∧ y.length = y.length then some false else none) = some false)) Try.underlying22) ?_
  refine AList.nil ?_
  refine W.cond (fun hb => ?_) (fun hb => ?_)
  rotate_left
  ·
   exact absurd hb (by decide)
  refine AWp.seq ?_
  refine AWp.region ?_
  refine L.Y Y.mv ?_
  refine L.Y Y.asg ?_
  refine AList.nil ?_
  refine AWp.ret ?_
  exact ⟨.inr rfl, [(6, _)], _, ⟨rfl, rfl⟩, IsPart.at [] [0, 1, 2, 3, 5, 9] base5 (H.c (H.c (H.c (H.c (H.c (H.c .nil)))))) (E.c .nil)⟩

/-! ### impl_Table_split: function 22 -/
def impl_Table_split.f (k : Nat) (a0_0 : Int) (a0_1 : Int) (l0_2 : List Int) (a1 : Int) : Option (Option (List Int)) := (impl_Table_emptyCells.f k a0_0 a0_1 l0_2).bind fun cs => impl_Table_split_1.f k a0_0 a0_1 l0_2 cs a1 []
set_option maxRecDepth 100000 in
set_option maxHeartbeats 20000000 in
theorem impl_Table_split.aco (k : Nat) (a0_0 : Int) (a0_1 : Int) (l0_2 : List Int) (a1 : Int) (r : Option (List Int)) (h : impl_Table_split.f k a0_0 a0_1 l0_2 a1 = some r) :
  ACalls Try.prog 22 [.agg [.lit (.int .i64 a0_0), .lit (.int .i64 a0_1), .row 1 l0_2.length false (ints .i64 l0_2)], .lit (.int .i64 a1)] []
   (fun v H' => match (generalizing := false) r with | none => v = .lit (.slice none 0 0) ∧ H' = [] | some y => v = .own 0 y.length ∧ H' = [.sl 3 1 y.length true (ints .i64 y)]) := by
 refine ACalls.ofP [4] Try.func22 rfl (by exact Nat.le_of_ble_eq_true rfl) rfl (by decide) ?_
 simp only [Try.ntmps22, env0, impl_Table_split.f] at h ⊢
 obtain ⟨cs, hc1, hc2⟩ := Option.bind_eq_some_iff.1 h
 clear h
 have hR := impl_Table_split_1.ac _ _ _ _ _ _ _ _ hc2
 refine AWp.seq ?_
 refine AWp.region ?_
 refine L.M M.bx ?_
 refine L.M M.bx ?_
 refine L.Y Y.asg ?_
 refine AList.nil ?_
 refine AWp.seq ?_
 refine AWp.region ?_
 refine L.S (S.ldN Try.underlying29 impl_Table_split_1.T28) ?_
 refine L.C (C.callE (l := true) [] Try.func26 (impl_Table_emptyCells.ac _ _ _ _ _ hc1) .nil ?_)
 refine L.M (M.al impl_Table_split_1.T22) ?_
 refine L.S (S.stb impl_Table_split_1.T22) ?_
 refine AList.nil ?_
 refine AWp.seq ?_
 refine AWp.region ?_
 refine L.M (M.al impl_Table_split_1.T62) ?_
 refine AList.nil ?_
 refine AWp.seq ?_
 refine AWp.region ?_
 refine L.Y Y.fn ?_
 refine L.S (S.stb impl_Table_split_1.T62) ?_
 refine AList.nil ?_
 refine AWp.seq ?_
 refine AWp.region ?_
 refine L.S (S.ld Try.underlying45) ?_
 refine L.M (M.bs Try.underlying22 impl_Table_split_1.T3) ?_
 refine L.fz 2 ?_
 cases r with
 | none =>
  refine L.C (C.callE (l := false) [3, 1, 0, 4, 5] Try.func36 hR (H.c (H.c (H.c (H.c (H.c .nil))))) ?_)
  refine L.Y Y.asg ?_
  refine AList.nil ?_
  refine AWp.ret ?_
  exact ⟨.inr rfl, [(4, _)], _, ⟨rfl, rfl⟩, IsPart.at [] [] base0 .nil (E.c .nil)⟩
 | some y =>
  refine L.C (C.callE (l := false) [3, 1, 0, 4, 5] Try.func36 hR (H.c (H.c (H.c (H.c (H.c .nil))))) ?_)
  refine L.Y Y.asg ?_
  refine AList.nil ?_
  refine AWp.ret ?_
  exact ⟨.inr rfl, [(4, _)], _, ⟨rfl, rfl⟩, IsPart.at [] [6] base0 (H.c .nil) (E.c .nil)⟩
/-- A split that is there. -/
def impl_Table_splitN.f (k : Nat) (a0_0 : Int) (a0_1 : Int) (l0_2 : List Int) (a1 : Int) : Option (List Int) := (impl_Table_split.f k a0_0 a0_1 l0_2 a1).bind id
theorem impl_Table_splitN.ac (k : Nat) (a0_0 : Int) (a0_1 : Int) (l0_2 : List Int) (a1 : Int) (r : List Int) (h : impl_Table_splitN.f k a0_0 a0_1 l0_2 a1 = some r) :
  ACalls Try.prog 22 [.agg [.lit (.int .i64 a0_0), .lit (.int .i64 a0_1), .row 1 l0_2.length false (ints .i64 l0_2)], .lit (.int .i64 a1)] []
   (fun v H' => v = .own 0 r.length ∧ H' = [.sl 3 1 r.length true (ints .i64 r)]) := by
 obtain ⟨o, h1, h2⟩ := Option.bind_eq_some_iff.1 h
 have h3 : o = some r := h2
 subst h3
 exact impl_Table_split.aco k a0_0 a0_1 l0_2 a1 (some r) h1

/-! ### impl_Table_leastParts: function 35 -/
def impl_Table_leastParts.l0 : Nat → Int → Int → List Int → Int → Option Int
 | 0, _, _, _, _ => none
 | k + 1, a0, a1, l0, x3 => if x3 ≤ 4 then ((impl_Table_split.f k a0 a1 l0 x3).bind fun r => (match r with | some _ => some x3 | none => impl_Table_leastParts.l0 k a0 a1 l0 (wrap64 (x3 + 1)))) else some 0
def impl_Table_leastParts.f (k : Nat) (a0_0 : Int) (a0_1 : Int) (l0_2 : List Int) : Option Int := impl_Table_leastParts.l0 k a0_0 a0_1 l0_2 1
set_option maxRecDepth 100000 in
set_option maxHeartbeats 20000000 in
theorem impl_Table_leastParts.ac (k : Nat) (a0_0 : Int) (a0_1 : Int) (l0_2 : List Int) (r : Int) (h : impl_Table_leastParts.f k a0_0 a0_1 l0_2 = some r) :
  ACalls Try.prog 35 [.agg [.lit (.int .i64 a0_0), .lit (.int .i64 a0_1), .row 1 l0_2.length false (ints .i64 l0_2)]] [] (fun v H' => v = .lit (.int .i64 r) ∧ H' = []) := by
 refine ACalls.ofP [2] Try.func35 rfl (by exact Nat.le_of_ble_eq_true rfl) rfl (by decide) ?_
 simp only [Try.ntmps35, env0, impl_Table_leastParts.f] at h ⊢
 refine AWp.seq ?_
 refine AWp.region ?_
 refine L.M M.bx ?_
 refine L.Y Y.asg ?_
 refine AList.nil ?_
 refine AWp.seq ?_
 refine AWp.seq ?_
 refine AWp.region ?_
 refine L.Y Y.asg ?_
 refine AList.nil ?_
 refine AWp.block ?_
 refine AWp.loopI (fun kk e H => kk ≤ k ∧ ∃ (x3 : Int), e = [(1, .ptr 0 0), (3, .lit (.int .i64 x3))] ∧ H = [.bx 29 [.lit (.int .i64 a0_0), .lit (.int .i64 a0_1), .row 1 l0_2.length false (ints .i64 l0_2)]] ∧ impl_Table_leastParts.l0 kk a0_0 a0_1 l0_2 x3 = some r) (k := k)
  ⟨_, _, ⟨Nat.le_refl _, _, rfl, rfl, h⟩, IsPart.at [] [0] base0 (H.c .nil) (E.c (E.c .nil))⟩ ?_
 clear h
 rintro k1 e H ⟨hk1, x3, rfl, rfl, h⟩
 cases k1 with
 | zero => exact absurd h (by simp [impl_Table_leastParts.l0])
 | succ k1 =>
 simp only [impl_Table_leastParts.l0] at h
 refine AWp.seq ?_
 refine AWp.seq ?_
 refine AWp.region ?_
 refine L.Y Y.mv ?_
 refine L.Y Y.bin ?_
 refine AList.nil ?_
 refine W.cond (fun hb => ?_) (fun hb => ?_)
 rotate_left
 ·
  simp only [decide_eq_false_iff_not] at hb
  rw [if_neg hb] at h
  obtain rfl := Option.some.inj h
  refine AWp.exit ?_
  refine AWp.seq ?_
  refine AWp.region ?_
  refine L.Y Y.asg ?_
  refine AList.nil ?_
  refine AWp.ret ?_
  exact ⟨.inr rfl, [(2, _)], _, ⟨rfl, rfl⟩, IsPart.at [] [] base0 .nil (E.c .nil)⟩
 simp only [decide_eq_true_eq] at hb
 rw [if_pos hb] at h
 refine AWp.skip ?_
 refine AWp.seq ?_
 refine AWp.block ?_
 obtain ⟨ro, hc1, h⟩ := Option.bind_eq_some_iff.1 h
 have hR := impl_Table_split.aco _ _ _ _ _ _ hc1
 refine AWp.seq ?_
 refine AWp.region ?_
 refine L.S (S.ldN Try.underlying29 impl_Table_split_1.T28) ?_
 refine L.Y Y.mv ?_
 cases ro with
 | none =>
  refine L.C (C.callE (l := true) [] Try.func22 hR .nil ?_)
  refine L.Y (Y.nn (hb := by first | exact rfl | exact (if_pos ⟨rfl, rfl⟩ : (if (true = true) ∧ y.length = y.length then some false else none) = some false)) Try.underlying22) ?_
  refine AList.nil ?_
  refine W.cond (fun hb => ?_) (fun hb => ?_)
  ·
   exact absurd hb (by decide)
  refine AWp.skip ?_
  refine AWp.region ?_
  refine L.Y Y.mv ?_
  refine L.Y Y.bin ?_
  refine L.Y Y.asg ?_
  refine AList.nil ?_
  exact ⟨k1, by omega, _, _, ⟨by omega, _, rfl, rfl, h⟩, IsPart.at [] [0] base0 (H.c .nil) (E.c (E.c .nil))⟩
 | some y =>
  obtain rfl := Option.some.inj h
  refine L.C (C.callE (l := true) [] Try.func22 hR .nil ?_)
  refine L.Y (Y.nn (hb := by first | exact rfl | exact (if_pos ⟨rfl, rfl⟩ : (if (true = true) ∧ y.length = y.length then some false else none) = some false)) Try.underlying22) ?_
  refine AList.nil ?_
  refine W.cond (fun hb => ?_) (fun hb => ?_)
  rotate_left
  ·
   exact absurd hb (by decide)
  refine AWp.seq ?_
  refine AWp.region ?_
  refine L.Y Y.mv ?_
  refine L.Y Y.asg ?_
  refine AList.nil ?_
  refine AWp.ret ?_
  exact ⟨.inr rfl, [(2, _)], _, ⟨rfl, rfl⟩, IsPart.at [] [] base0 .nil (E.c .nil)⟩

/-! ### impl_LeastParts: function 21 -/
def impl_LeastParts.f (k : Nat) (a0_0 : Int) (a0_1 : Int) (l0_2 : List Int) : Option (Int × Bool) := (impl_isSplit.f k a0_0 a0_1 l0_2).bind fun t261 => (if t261 = true then ((impl_Table_leastParts.f k a0_0 a0_1 l0_2).bind fun t262 => (some (t262, decide (t262 > 0)))) else (some (0, false)))
set_option maxRecDepth 100000 in
set_option maxHeartbeats 20000000 in
theorem impl_LeastParts.ac (k : Nat) (a0_0 : Int) (a0_1 : Int) (l0_2 : List Int) (r1 : Int) (r2 : Bool) (h : impl_LeastParts.f k a0_0 a0_1 l0_2 = some (r1, r2)) :
  ACalls Try.prog 21 [.agg [.lit (.int .i64 a0_0), .lit (.int .i64 a0_1), .row 1 l0_2.length false (ints .i64 l0_2)]] [] (fun v H' => v = .tup [.lit (.int .i64 r1), .lit (.bool r2)] ∧ H' = []) := by
 refine ACalls.ofP [2, 3] Try.func21 rfl (by exact Nat.le_of_ble_eq_true rfl) rfl (by decide) ?_
 simp only [Try.ntmps21, env0, impl_LeastParts.f] at h ⊢
 refine AWp.seq ?_
 refine AWp.region ?_
 refine L.M M.bx ?_
 refine L.Y Y.asg ?_
 refine L.Y Y.asg ?_
 refine AList.nil ?_
 refine AWp.seq ?_
 refine AWp.seq ?_
 refine AWp.region ?_
 refine L.S (S.ldN Try.underlying29 Y29) ?_
 replace h := Option.bind_eq_some_iff.1 h
 obtain ⟨t261, hc1, h⟩ := h
 refine L.C (C.callE (l := true) [] Try.func34 (impl_isSplit.ac _ _ _ _ _ hc1) .nil ?_)
 refine L.Y Y.nt ?_
 refine AList.nil ?_
 refine W.cond (fun hb => ?_) (fun hb => ?_)
 ·
  have hb2 := hb
  try simp only [hS, hE, ne_eq] at hb
  first | rw [if_pos hb2] at h | rw [if_neg (Bool.eq_false_iff.1 hb2)] at h | rw [if_pos hb] at h | rw [if_neg hb] at h | (simp only [hb, hT, reduceIte] at h) | skip
  refine AWp.seq ?_
  refine AWp.region ?_
  refine L.Y Y.asg ?_
  refine L.Y Y.asg ?_
  refine AList.nil ?_
  simp only [Option.some.injEq, Prod.mk.injEq] at h
  obtain ⟨rfl, rfl⟩ := h
  refine AWp.ret ?_
  exact ⟨.inr rfl, [(2, _), (3, _)], _, ⟨rfl, rfl⟩, IsPart.at [] [] base0 .nil (E.c (E.c .nil))⟩
 ·
  have hb2 := hb
  try simp only [hS, hE, ne_eq] at hb
  first | rw [if_pos hb2] at h | rw [if_neg (Bool.eq_false_iff.1 hb2)] at h | rw [if_pos hb] at h | rw [if_neg hb] at h | (simp only [hb, hT, reduceIte] at h) | skip
  refine AWp.skip ?_
  refine AWp.seq ?_
  refine AWp.region ?_
  refine L.S (S.ldN Try.underlying29 Y29) ?_
  replace h := Option.bind_eq_some_iff.1 h
  obtain ⟨t262, hc3, h⟩ := h
  refine L.C (C.callE (l := true) [] Try.func35 (impl_Table_leastParts.ac _ _ _ _ _ hc3) .nil ?_)
  refine L.Y Y.asg ?_
  refine AList.nil ?_
  refine AWp.seq ?_
  refine W.kp [0, 1, 2, 3, 4, 7] ?_
  refine AWp.region ?_
  refine L.Y Y.mv ?_
  refine L.Y Y.mv ?_
  refine L.Y Y.bin ?_
  refine L.Y Y.asg ?_
  refine L.Y Y.asg ?_
  refine AList.nil ?_
  simp only [Option.some.injEq, Prod.mk.injEq] at h
  obtain ⟨rfl, rfl⟩ := h
  refine AWp.ret ?_
  exact ⟨.inr rfl, [(2, _), (3, _)], _, ⟨rfl, rfl⟩, IsPart.at [] [] base0 .nil (E.c (E.c .nil))⟩

/-! ### impl_Table_cover: function 23 -/
def impl_Table_cover.l0 : Nat → Int → List Int → Int → Int → Int → Int → List Int → Int → Int → List Int → Option (Int × Int × List Int)
 | 0, _, _, _, _, _, _, _, _, _, _ => none
 | k + 1, x6, x17, x18, x19, x264000, x264001, x264002, x269000, x269001, x269002 => if x19 < x18 then (if 0 ≤ x19 then (if x19 < (x17.length : Int) then (if 0 ≤ (rd x17 x19) then (if (rd x17 x19) < (x264002.length : Int) then (if (rd x17 x19) < (x269002.length : Int) then (impl_Table_cover.l0 k (Go.bits .or .i64 x6 (rd x264002 (rd x17 x19))) x17 x18 (wrap64 (x19 + 1)) x264000 x264001 x264002 x269000 x269001 (x269002.set ((rd x17 x19) : Int).toNat (Go.bits .or .i64 x6 (rd x264002 (rd x17 x19))))) else (none)) else (none)) else (none)) else (none)) else (none)) else (some (x269000, x269001, x269002))
def impl_Table_cover.f (k : Nat) (a0_0 : Int) (a0_1 : Int) (l0_2 : List Int) (l1 : List Int) : Option (Int × Int × List Int) := if 0 ≤ a0_0 then (if (a0_0 : Int).toNat ≤ 35184372088832 then (impl_Table_cover.l0 k 0 l1 (l1.length : Int) 0 a0_0 a0_1 l0_2 a0_0 a0_1 (List.replicate (a0_0 : Int).toNat 0)) else (none)) else (none)
set_option maxRecDepth 100000 in
set_option maxHeartbeats 20000000 in
theorem impl_Table_cover.ac (k : Nat) (a0_0 : Int) (a0_1 : Int) (l0_2 : List Int) (l1 : List Int) (r1 : Int) (r2 : Int) (r3 : List Int) (h : impl_Table_cover.f k a0_0 a0_1 l0_2 l1 = some (r1, r2, r3)) :
  ACalls Try.prog 23 [.agg [.lit (.int .i64 a0_0), .lit (.int .i64 a0_1), .row 1 l0_2.length false (ints .i64 l0_2)], .row 1 l1.length false (ints .i64 l1)] [] (fun v H' => v = .agg [.lit (.int .i64 r1), .lit (.int .i64 r2), .own 0 r3.length] ∧ H' = [.sl 3 1 r3.length false (ints .i64 r3)]) := by
 refine ACalls.ofV Try.func23 rfl (by exact Nat.le_of_ble_eq_true rfl) ?_
 simp only [Try.ntmps23, env0, impl_Table_cover.f] at h ⊢
 repeat (first | (rw [iN] at h; obtain ⟨_, h⟩ := h) | (rw [iP] at h; obtain ⟨_, h⟩ := h) | (simp only [bS] at h))
 refine AWp.seq ?_
 refine AWp.region ?_
 refine L.M M.bx ?_
 refine L.M (M.al Y29) ?_
 refine AList.nil ?_
 refine AWp.seq ?_
 apply AWp.joinX
 ·
  refine Dt.reg [] [9] (.y 0 (.t 1 (.y 2 (.t 3 (.y 4 (.t 5 (.two 6 (.y 7 (.one 8 (.last 9 (.y 10 .done)))) 8 (.one 6 (.y 7 (.last 9 (.y 10 .done))))))))))) HM ?_
  refine Dt.Y rfl wantN (Y.fa (off := 0) Try.underlying29 Y3) ?_
  refine Dt.T rfl wantN (D.ld Try.underlying3) ?_
  refine Dt.Y rfl wantN (Y.fa (off := 1) Try.underlying29 Y3) ?_
  refine Dt.T rfl wantN (D.ld Try.underlying3) ?_
  refine Dt.Y rfl wantN (Y.fa (off := 0) Try.underlying29 Y3) ?_
  refine Dt.T rfl wantN (D.ld Try.underlying3) ?_
  refine Dt.B (g1 := false) (g2 := false) rfl rfl wantN wantN ?_ ?_
  ·
   skip
   refine Ox.M (M.mk Try.underlying22 Y3) ?_
   refine Dt.Y rfl wantN (Y.bd Try.underlying29 Y29 P29) ?_
   refine Dt.O (g' := false) rfl wantN ?_
   refine Ox.M (M.al Y29) ?_
   refine Dt.L rfl wantN ?_
   refine Op.S (S.stb Y29) ?_
   refine Du.Y rfl wantN Y.asg ?_
   refine Du.nil ?_
   exact ⟨rfl, .inl ⟨rfl, rfl⟩⟩
  ·
   skip
   refine Ox.M (M.al Y29) ?_
   refine Dt.O (g' := false) rfl wantN ?_
   refine Ox.M (M.mk Try.underlying22 Y3) ?_
   refine Dt.Y rfl wantN (Y.bd Try.underlying29 Y29 P29) ?_
   refine Dt.L rfl wantN ?_
   refine Op.S (S.stb Y29) ?_
   refine Du.Y rfl wantN Y.asg ?_
   refine Du.nil ?_
   exact ⟨rfl, .inr (IsPart.at [] [0, 1, 3, 2] base0 (H.c (H.c (H.c (H.c .nil)))) (by repeat' first | exact .nil | refine E.c ?_))⟩
 ·
  skip
  refine AWp.seq ?_
  refine AWp.seq ?_
  refine W.kp [0, 1, 2, 4, 5, 6] ?_
  refine AWp.region ?_
  refine L.Y Y.mv ?_
  refine L.Y (Y.ln Try.underlying22) ?_
  refine L.Y Y.mv ?_
  refine AList.nil ?_
  refine AWp.block ?_
  refine AWp.loopI (fun kk e H => kk ≤ k ∧ ∃ (x6 : Int) (x18 : Int) (x19 : Int) (x264000 : Int) (x264001 : Int) (x265000 : Int) (x265001 : Int) (x269000 : Int) (x269001 : Int) (x269002 : List Int), e = [(2, .ptr 0 0), (4, .ptr 1 0), (5, .ptr 2 0), (6, .lit (.int .i64 x6)), (17, .row 1 l1.length false (ints .i64 l1)), (18, .lit (.int .i64 x18)), (19, .lit (.int .i64 x19))] ∧ H = [.bx 29 [.lit (.int .i64 x264000), .lit (.int .i64 x264001), .row 1 l0_2.length false (ints .i64 l0_2)], .bx 29 [.lit (.int .i64 x265000), .lit (.int .i64 x265001), .lit (.slice none 0 0)], .bx 29 [.lit (.int .i64 x269000), .lit (.int .i64 x269001), .own 3 x269002.length], .sl 3 1 x269002.length true (ints .i64 x269002)] ∧ impl_Table_cover.l0 kk x6 l1 x18 x19 x264000 x264001 l0_2 x269000 x269001 x269002 = some (r1, r2, r3)) (k := k)
   ⟨_, _, ⟨Nat.le_refl _, _, _, _, _, _, _, _, _, _, _, rfl, rfl, h⟩, IsPart.at [] [0, 1, 3, 2] base0 (H.c (H.c (H.c (H.c .nil)))) (E.c (E.c (E.c (E.c (E.c (E.c (E.c .nil)))))))⟩ ?_
  clear h
  rintro k1 e H ⟨hk2, x6, x18, x19, x264000, x264001, x265000, x265001, x269000, x269001, x269002, rfl, rfl, h⟩
  cases k1 with
  | zero => exact absurd h (by simp [impl_Table_cover.l0])
  | succ k1 =>
  simp only [impl_Table_cover.l0] at h
  refine AWp.seq ?_
  refine AWp.region ?_
  refine L.Y Y.bin ?_
  refine AList.nil ?_
  refine AWp.seq ?_
  refine W.cond (fun hb => ?_) (fun hb => ?_)
  ·
   have hb3 := hb
   try simp only [hS, hE, ne_eq] at hb
   first | rw [if_pos hb3] at h | rw [if_neg (Bool.eq_false_iff.1 hb3)] at h | rw [if_pos hb] at h | rw [if_neg hb] at h | (simp only [hb, hT, reduceIte] at h) | skip
   repeat (first | (rw [iN] at h; obtain ⟨_, h⟩ := h) | (rw [iP] at h; obtain ⟨_, h⟩ := h) | (simp only [bS] at h))
   refine AWp.skip ?_
   refine AWp.seq ?_
   refine AWp.block ?_
   refine AWp.seq ?_
   refine AWp.region ?_
   refine L.Y (Y.ixr Try.underlying22 Y3) ?_
   refine L.S (S.ld Try.underlying3) ?_
   refine L.Y Y.asg ?_
   refine AList.nil ?_
   refine AWp.seq ?_
   refine AWp.region ?_
   refine L.Y Y.mv ?_
   refine L.Y (Y.fa (off := 2) Try.underlying29 Y22) ?_
   refine L.S (S.ld Try.underlying22) ?_
   refine L.Y Y.mv ?_
   refine L.Y (Y.ixr Try.underlying22 Y3) ?_
   refine L.S (S.ld Try.underlying3) ?_
   refine L.Y Y.bin ?_
   refine L.Y Y.asg ?_
   refine AList.nil ?_
   refine W.kp [2, 4, 5, 6, 8, 17, 18, 19, 20] ?_
   refine AWp.region ?_
   refine L.Y (Y.fa (off := 2) Try.underlying29 Y22) ?_
   refine L.S (S.ld Try.underlying22) ?_
   refine L.Y Y.mv ?_
   refine L.Y Y.mv ?_
   refine L.Y (Y.ixo Try.underlying22 Y3) ?_
   refine L.S (S.sts Y3) ?_
   refine AList.nil ?_
   refine W.kp [2, 4, 5, 6, 8, 17, 18, 19, 20] ?_
   refine AWp.region ?_
   refine L.Y Y.bin ?_
   refine L.Y Y.mv ?_
   refine AList.nil ?_
   exact ⟨k1, by omega, _, _, ⟨by omega, _, _, _, _, _, _, _, _, _, _, rfl, rfl, h⟩, IsPart.at [] [0, 1, 2, 3] base0 (H.c (H.c (H.c (H.c .nil)))) (E.c (E.c (E.c (E.c (E.c (E.c (E.c .nil)))))))⟩
  ·
   have hb3 := hb
   try simp only [hS, hE, ne_eq] at hb
   first | rw [if_pos hb3] at h | rw [if_neg (Bool.eq_false_iff.1 hb3)] at h | rw [if_pos hb] at h | rw [if_neg hb] at h | (simp only [hb, hT, reduceIte] at h) | skip
   refine AWp.exit ?_
   refine AWp.seq ?_
   refine AWp.region ?_
   refine L.S (S.ldN Try.underlying29 Y29) ?_
   refine L.S (S.stb Y29) ?_
   refine AList.nil ?_
   simp only [Option.some.injEq, Prod.mk.injEq] at h
   obtain ⟨rfl, rfl, rfl⟩ := h
   refine AWp.ret ?_
   exact ⟨.inr rfl, _, _, _, Res.cl Try.underlying29 Y29, ⟨rfl, rfl⟩, PartV.at [] [3] base0 (H.c .nil)⟩

/-! ### impl_MeetOfBiorders: function 7 -/
def impl_MeetOfBiorders.l0 : Nat → List (S29) → List Int → Int → Int → Int → Int → List Int → Option ((List (S29)) × Bool)
 | 0, _, _, _, _, _, _, _ => none
 | k + 1, x6, x7, x20, x21, x273000, x273001, x273002 => if x21 < x20 then ((impl_Table_emptyCells.f k x273000 x273001 x273002).bind fun t281 => ((impl_cellsWith.f k t281 x7 x21).bind fun t284 => ((impl_Table_freeOrder.f k x273000 x273001 x273002 t284).bind fun t287 => ((impl_Table_cover.f k x273000 x273001 x273002 t287).bind fun bt290 => (if x6.length < 3518437208883 then (impl_MeetOfBiorders.l0 k (x6 ++ [(⟨bt290.1, bt290.2.1, bt290.2.2⟩ : S29)]) x7 x20 (wrap64 (x21 + 1)) x273000 x273001 x273002) else (none)))))) else (some (x6, true))
def impl_MeetOfBiorders.f (k : Nat) (a0_0 : Int) (a0_1 : Int) (l0_2 : List Int) : Option ((List (S29)) × Bool) := (impl_LeastParts.f k a0_0 a0_1 l0_2).bind fun bt273 => (if bt273.2 = true then ((impl_Table_splitN.f k a0_0 a0_1 l0_2 bt273.1).bind fun t278 => (impl_MeetOfBiorders.l0 k (([] : List (S29))) t278 bt273.1 0 a0_0 a0_1 l0_2)) else (some (([] : List (S29)), false)))
set_option maxRecDepth 100000 in
set_option maxHeartbeats 20000000 in
theorem impl_MeetOfBiorders.ac (k : Nat) (a0_0 : Int) (a0_1 : Int) (l0_2 : List Int) (r1 : List (S29)) (r2 : Bool) (h : impl_MeetOfBiorders.f k a0_0 a0_1 l0_2 = some (r1, r2)) :
  ACalls Try.prog 7 [.agg [.lit (.int .i64 a0_0), .lit (.int .i64 a0_1), .row 1 l0_2.length false (ints .i64 l0_2)]] [] (fun v H' => v = .tup [.own 0 r1.length, .lit (.bool r2)] ∧ H' = [.dp 29 3 r1.length false (DE 3 r1)]) := by
 refine ACalls.ofP [2, 3] Try.func7 rfl (by exact Nat.le_of_ble_eq_true rfl) rfl (by decide) ?_
 simp only [Try.ntmps7, env0, impl_MeetOfBiorders.f] at h ⊢
 refine AWp.seq ?_
 refine AWp.region ?_
 refine L.M M.bx ?_
 refine L.Y Y.asg ?_
 refine L.Y Y.asg ?_
 refine AList.nil ?_
 refine AWp.seq ?_
 refine AWp.region ?_
 refine L.S (S.ldN Try.underlying29 Y29) ?_
 replace h := Option.bind_eq_some_iff.1 h
 obtain ⟨⟨t273, t274⟩, hc1, h⟩ := h
 dsimp only at h
 refine L.C (C.callE (l := true) [] Try.func21 (impl_LeastParts.ac _ _ _ _ _ _ hc1) .nil ?_)
 refine L.Y Y.mv ?_
 refine L.Y Y.ex ?_
 refine L.Y Y.ex ?_
 refine L.Y Y.asg ?_
 refine L.Y Y.asg ?_
 refine AList.nil ?_
 refine AWp.seq ?_
 refine AWp.seq ?_
 refine W.kp [0, 1, 2, 3, 4, 5] ?_
 refine AWp.region ?_
 refine L.Y Y.mv ?_
 refine L.Y Y.nt ?_
 refine AList.nil ?_
 refine W.cond (fun hb => ?_) (fun hb => ?_)
 ·
  have hb2 := hb
  try simp only [hS, hE, ne_eq] at hb
  first | rw [if_pos hb2] at h | rw [if_neg (Bool.eq_false_iff.1 hb2)] at h | rw [if_pos hb] at h | rw [if_neg hb] at h | (simp only [hb, hT, reduceIte] at h) | skip
  refine AWp.seq ?_
  refine AWp.region ?_
  refine L.Y Y.asg ?_
  refine L.Y Y.asg ?_
  refine AList.nil ?_
  simp only [Option.some.injEq, Prod.mk.injEq] at h
  obtain ⟨rfl, rfl⟩ := h
  refine AWp.ret ?_
  exact ⟨.inr rfl, [(2, _), (3, _)], _, ⟨rfl, rfl⟩, IsPart.at [(29, 3)] [1] base0 (H.c .nil) (E.c (E.c .nil))⟩
 ·
  have hb2 := hb
  try simp only [hS, hE, ne_eq] at hb
  first | rw [if_pos hb2] at h | rw [if_neg (Bool.eq_false_iff.1 hb2)] at h | rw [if_pos hb] at h | rw [if_neg hb] at h | (simp only [hb, hT, reduceIte] at h) | skip
  repeat (first | (rw [iN] at h; obtain ⟨_, h⟩ := h) | (rw [iP] at h; obtain ⟨_, h⟩ := h) | (simp only [bS] at h))
  refine AWp.skip ?_
  refine AWp.seq ?_
  refine AWp.region ?_
  refine L.M (M.bsT ([] : List (S29)) Try.underlying26 Y29) ?_
  refine L.dp 1 3 S29 rfl ?_
  refine L.S (S.ldN Try.underlying29 Y29) ?_
  refine L.Y Y.mv ?_
  replace h := Option.bind_eq_some_iff.1 h
  obtain ⟨t278, hc3, h⟩ := h
  refine L.C (C.callE (l := true) [] Try.func22 (impl_Table_splitN.ac _ _ _ _ _ _ hc3) .nil ?_)
  refine L.Y Y.asg ?_
  refine L.Y Y.asg ?_
  refine AList.nil ?_
  refine AWp.seq ?_
  refine AWp.seq ?_
  refine W.kp [0, 1, 2, 3, 4, 5, 6, 7, 15] ?_
  refine AWp.region ?_
  refine L.Y Y.mv ?_
  refine L.Y Y.mv ?_
  refine AList.nil ?_
  refine AWp.block ?_
  refine AWp.loopI (fun kk e H => kk ≤ k ∧ ∃ (x6 : List (S29)) (x7 : List Int) (x20 : Int) (x21 : Int) (x273000 : Int) (x273001 : Int), e = [(1, .ptr 0 0), (2, .lit (.slice none 0 0)), (6, .own 1 x6.length), (7, .own 2 x7.length), (20, .lit (.int .i64 x20)), (21, .lit (.int .i64 x21))] ∧ H = [.bx 29 [.lit (.int .i64 x273000), .lit (.int .i64 x273001), .row 1 l0_2.length false (ints .i64 l0_2)], .dp 29 3 x6.length true (DE 3 x6), .sl 3 1 x7.length true (ints .i64 x7)] ∧ impl_MeetOfBiorders.l0 kk x6 x7 x20 x21 x273000 x273001 l0_2 = some (r1, r2)) (k := k)
   ⟨_, _, ⟨Nat.le_refl _, _, _, _, _, _, _, rfl, rfl, h⟩, IsPart.at [] [0, 1, 2] base0 (H.c (H.c (H.c .nil))) (E.c (E.c (E.c (E.c (E.c (E.c .nil))))))⟩ ?_
  clear h
  rintro k4 e H ⟨hk5, x6, x7, x20, x21, x273000, x273001, rfl, rfl, h⟩
  cases k4 with
  | zero => exact absurd h (by simp [impl_MeetOfBiorders.l0])
  | succ k4 =>
  simp only [impl_MeetOfBiorders.l0] at h
  refine AWp.seq ?_
  refine AWp.region ?_
  refine L.Y Y.bin ?_
  refine AList.nil ?_
  refine AWp.seq ?_
  refine W.cond (fun hb => ?_) (fun hb => ?_)
  ·
   have hb6 := hb
   try simp only [hS, hE, ne_eq] at hb
   first | rw [if_pos hb6] at h | rw [if_neg (Bool.eq_false_iff.1 hb6)] at h | rw [if_pos hb] at h | rw [if_neg hb] at h | (simp only [hb, hT, reduceIte] at h) | skip
   refine AWp.skip ?_
   refine AWp.seq ?_
   refine AWp.block ?_
   refine AWp.seq ?_
   refine AWp.region ?_
   refine L.Y Y.mv ?_
   refine L.Y Y.asg ?_
   refine AList.nil ?_
   refine Dt.reg [] [11] (.y 0 (.t 1 (.t 2 (.t 3 (.y 5 (.y 6 (.one 4 (.one 7 (.one 8 (.one 9 (.one 10 (.last 11 (.y 12 .done))))))))))))) HM ?_
   refine Dt.Y rfl wantN Y.mv ?_
   refine Dt.T rfl wantN (D.ldN Try.underlying29 Y29) ?_
   refine Dt.T rfl wantN (D.ldN Try.underlying29 Y29) ?_
   refine Dt.T rfl wantN (D.ldN Try.underlying29 Y29) ?_
   refine Dt.Y rfl wantN Y.mv ?_
   refine Dt.Y rfl wantN Y.mv ?_
   refine Dt.O (g' := false) rfl wantN ?_
   replace h := Option.bind_eq_some_iff.1 h
   obtain ⟨t281, hc7, h⟩ := h
   refine Ox.C true [] Try.func26 (impl_Table_emptyCells.ac _ _ _ _ _ hc7) .nil ?_
   refine Dt.O (g' := false) rfl wantN ?_
   replace h := Option.bind_eq_some_iff.1 h
   obtain ⟨t284, hc8, h⟩ := h
   refine Ox.C true [] Try.func25 (impl_cellsWith.ac _ _ _ _ _ hc8) .nil ?_
   refine Dt.O (g' := false) rfl wantN ?_
   replace h := Option.bind_eq_some_iff.1 h
   obtain ⟨t287, hc9, h⟩ := h
   rcases Classical.em (t287 = []) with hq | hq
   ·
    have hq0 : t287.length = 0 := by rw [hq]; rfl
    have hq1 : (ints .i64 t287) = [] := by rw [hq]; rfl
    refine Ox.C true [] Try.func24 ((impl_Table_freeOrder.acq _ _ _ _ _ _ hc9).conseq (fun _ _ q => q.elim (fun z => z.2) (fun z => absurd hq z.1))) .nil ?_
    refine Dt.O (g' := false) rfl wantN ?_
    replace h := Option.bind_eq_some_iff.1 h
    obtain ⟨⟨t290, t291, t292⟩, hc10, h⟩ := h
    dsimp only at h
    repeat (first | (rw [iN] at h; obtain ⟨_, h⟩ := h) | (rw [iP] at h; obtain ⟨_, h⟩ := h) | (simp only [bS] at h))
    refine Ox.C true [] Try.func23 (impl_Table_cover.ac _ _ _ _ _ _ _ _ hc10) .nil ?_
    refine Dt.O (g' := false) rfl wantN ?_
    refine Ox.M (M.bs Try.underlying26 Y29) ?_
    refine Dt.L rfl wantN ?_
    refine Op.S (S.apD (nn' := true) Try.underlying26 Y29) ?_
    refine Du.gv 1 5 2 _ (⟨_, _, _⟩ : S29) ?_
    refine Du.Y rfl wantN Y.asg ?_
    refine Du.nil ?_
    refine W.kp [1, 2, 6, 7, 8, 20, 21, 22] ?_
    refine AWp.region ?_
    refine L.Y Y.bin ?_
    refine L.Y Y.mv ?_
    refine AList.nil ?_
    exact ⟨k4, by omega, _, _, ⟨by omega, _, _, _, _, _, _, rfl, rfl, h⟩, IsPart.at [] [0, 1, 2] base0 (H.c (H.c (H.c .nil))) (E.c (E.c (E.c (E.c (E.c (E.c .nil))))))⟩
   ·
    skip
    refine Ox.C true [] Try.func24 ((impl_Table_freeOrder.acq _ _ _ _ _ _ hc9).conseq (fun _ _ q => q.elim (fun z => absurd z.1 hq) (fun z => z.2))) .nil ?_
    refine Dt.O (g' := false) rfl wantN ?_
    replace h := Option.bind_eq_some_iff.1 h
    obtain ⟨⟨t290, t291, t292⟩, hc11, h⟩ := h
    dsimp only at h
    repeat (first | (rw [iN] at h; obtain ⟨_, h⟩ := h) | (rw [iP] at h; obtain ⟨_, h⟩ := h) | (simp only [bS] at h))
    refine Ox.C true [] Try.func23 (impl_Table_cover.ac _ _ _ _ _ _ _ _ hc11) .nil ?_
    refine Dt.O (g' := false) rfl wantN ?_
    refine Ox.M (M.bs Try.underlying26 Y29) ?_
    refine Dt.L rfl wantN ?_
    refine Op.S (S.apD (nn' := true) Try.underlying26 Y29) ?_
    refine Du.gv 1 6 2 _ (⟨_, _, _⟩ : S29) ?_
    refine Du.Y rfl wantN Y.asg ?_
    refine Du.nil ?_
    refine W.kp [1, 2, 6, 7, 8, 20, 21, 22] ?_
    refine AWp.region ?_
    refine L.Y Y.bin ?_
    refine L.Y Y.mv ?_
    refine AList.nil ?_
    exact ⟨k4, by omega, _, _, ⟨by omega, _, _, _, _, _, _, rfl, rfl, h⟩, IsPart.at [] [0, 1, 2] base0 (H.c (H.c (H.c .nil))) (E.c (E.c (E.c (E.c (E.c (E.c .nil))))))⟩
  ·
   have hb6 := hb
   try simp only [hS, hE, ne_eq] at hb
   first | rw [if_pos hb6] at h | rw [if_neg (Bool.eq_false_iff.1 hb6)] at h | rw [if_pos hb] at h | rw [if_neg hb] at h | (simp only [hb, hT, reduceIte] at h) | skip
   refine AWp.exit ?_
   refine AWp.seq ?_
   refine AWp.region ?_
   refine L.Y Y.mv ?_
   refine L.Y Y.asg ?_
   refine L.Y Y.asg ?_
   refine AList.nil ?_
   simp only [Option.some.injEq, Prod.mk.injEq] at h
   obtain ⟨rfl, rfl⟩ := h
   refine AWp.ret ?_
   exact ⟨.inr rfl, [(2, _), (3, _)], _, ⟨rfl, rfl⟩, IsPart.at [] [1] base0 (H.c .nil) (E.c (E.c .nil))⟩

end Go.Proofs.Ytboaffpfphkneaa.PFnExactMeetOfBiorders
