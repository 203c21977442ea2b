-- Written by a program of this session's (wip/myprint2): the functions by the kit's print, the walks by awgen.py. Lean checks it.
import Derived.Test.YtpippjgphndjmaaPFnMeetsOfBiordersx0
import Derived.Test.YtpippjgphndjmaaPFnMeetsOfBiordersx1
import Derived.Test.YtpippjgphndjmaaPFnMeetsOfBiordersx2
import Derived.Test.YtpippjgphndjmaaPFnMeetsOfBiordersx3
import Derived.Test.YtpippjgphndjmaaPFnMeetsOfBiordersx4
namespace Go.Proofs.Ytpippjgphndjmaa.PFnMeetsOfBiorders
open Go.RowKit Go.Proofs.YtpippjgphndjmaaW.PrintWords Go.Proofs.YtpippjgphndjmaaW.PrintLast Go.Proofs.YtpippjgphndjmaaW.PrintMore Go.Proofs.YtpippjgphndjmaaM Go.Proofs.YtpippjgphndjmaaA
attribute [local go_sem] max2_int min2_int max_two min_two max_three min_three max_four min_four   -- for this text's walks alone
set_option linter.unusedVariables false
set_option linter.unusedSimpArgs false

/-! ### impl_Table_split_1: function 70 -/
mutual
def impl_Table_split_1.l0 : Nat → Int → Int → List Int → List Int → Int → List Int → Int → Option (Option (List Int))
 | 0, _, _, _, _, _, _, _ => none
 | k + 1, a0, a1, l0, cs, many, ns, x17 => if x17 < many then ((slices_Clone_int_int.f ns).bind fun c => (if c.length < 17592186044416 then ((impl_cellsWith.f k cs (c ++ [x17]) x17).bind fun t => ((impl_Table_freeOrder.f k a0 a1 l0 t).bind fun fo => (if fo = [] then (impl_Table_split_1.l0 k a0 a1 l0 cs many ns (wrap64 (x17 + 1))) else ((impl_Table_split_1.f k a0 a1 l0 cs many (c ++ [x17])).bind fun r => (match r with | some y => some (some y) | none => impl_Table_split_1.l0 k a0 a1 l0 cs many ns (wrap64 (x17 + 1))))))) else none)) else some none
def impl_Table_split_1.f : Nat → Int → Int → List Int → List Int → Int → List Int → Option (Option (List Int))
 | 0, _, _, _, _, _, _ => none
 | k + 1, a0, a1, l0, cs, many, ns => if (ns.length : Int) = (cs.length : Int) then some (some ns) else impl_Table_split_1.l0 k a0 a1 l0 cs many ns 0
end
theorem impl_Table_split_1.T3 : Ty Try.prog 3 1 8 (.int .i64 0) := .of (by kernel_rfl)
theorem impl_Table_split_1.T22 : Ty Try.prog 22 1 24 (.slice none 0 0) := .of (by kernel_rfl)
theorem impl_Table_split_1.T28 : Ty Try.prog 28 3 40 (.agg #[.int .i64 0, .int .i64 0, .slice none 0 0]) := .of (by kernel_rfl)
theorem impl_Table_split_1.T62 : Ty Try.prog 62 1 8 .nilFunc := .of (by kernel_rfl)
theorem impl_Table_split_1.HMx : Try.prog.follows .mixedOrders = true := by kernel_rfl
set_option maxRecDepth 100000 in
set_option maxHeartbeats 20000000 in
theorem impl_Table_split_1.ac : ∀ (k : Nat) (a0_0 a0_1 : Int) (l0_2 cs : List Int) (many : Int) (ns : List Int) (r : Option (List Int)) (_ : impl_Table_split_1.f k a0_0 a0_1 l0_2 cs many ns = some r),
  ACalls Try.prog 70 [.own 4 ns.length, .ptr 0 0, .ptr 1 0, .ptr 2 0, .ptr 3 0] [.bx 22 [.row 1 cs.length false (ints .i64 cs)], .bx 3 [.lit (.int .i64 many)], .bx 28 [.lit (.int .i64 a0_0), .lit (.int .i64 a0_1), .row 1 l0_2.length false (ints .i64 l0_2)], .bx 62 [.fn 70 [.ptr 0 0, .ptr 1 0, .ptr 2 0, .ptr 3 0]], .sl 3 1 ns.length true (ints .i64 ns)]
   (fun v H' => match (generalizing := false) r with | none => v = .lit (.slice none 0 0) ∧ H' = [.bx 22 [.row 1 cs.length false (ints .i64 cs)], .bx 3 [.lit (.int .i64 many)], .bx 28 [.lit (.int .i64 a0_0), .lit (.int .i64 a0_1), .row 1 l0_2.length false (ints .i64 l0_2)], .bx 62 [.fn 70 [.ptr 0 0, .ptr 1 0, .ptr 2 0, .ptr 3 0]], .gone] | some y => v = .own 5 y.length ∧ H' = [.bx 22 [.row 1 cs.length false (ints .i64 cs)], .bx 3 [.lit (.int .i64 many)], .bx 28 [.lit (.int .i64 a0_0), .lit (.int .i64 a0_1), .row 1 l0_2.length false (ints .i64 l0_2)], .bx 62 [.fn 70 [.ptr 0 0, .ptr 1 0, .ptr 2 0, .ptr 3 0]], .gone, .sl 3 1 y.length true (ints .i64 y)]) := by
 intro k
 induction k using Nat.strongRecOn with
 | _ k ih =>
 intro a0_0 a0_1 l0_2 cs many ns r h
 cases k with
 | zero => exact absurd h (by simp [impl_Table_split_1.f])
 | succ k =>
 refine ACalls.ofP [6] Try.func70 rfl (by exact Nat.le_of_ble_eq_true rfl) rfl (by decide) ?_
 simp only [Try.ntmps70, env0, impl_Table_split_1.f] at h ⊢
 refine AWp.seq ?_
 refine AWp.region ?_
 refine L.Y Y.asg ?_
 refine AList.nil ?_
 refine AWp.seq ?_
 refine AWp.seq ?_
 refine AWp.region ?_
 refine L.Y Y.mv ?_
 refine L.Y (Y.ln Try.underlying22) ?_
 refine L.S (S.ld Try.underlying22) ?_
 refine L.Y (Y.ln Try.underlying22) ?_
 refine L.Y Y.bin ?_
 refine AList.nil ?_
 refine W.cond (fun hb => ?_) (fun hb => ?_)
 ·
  simp only [beq_iff_eq] at hb
  rw [if_pos hb] at h
  obtain rfl := Option.some.inj h
  refine AWp.seq ?_
  refine AWp.region ?_
  refine L.Y Y.mv ?_
  refine L.Y Y.asg ?_
  refine AList.nil ?_
  refine AWp.ret ?_
  exact ⟨.inr rfl, [(6, _)], _, ⟨rfl, rfl⟩, IsPart.at [(0, 0)] [0, 1, 2, 3, 5, 4] base5 (H.c (H.c (H.c (H.c (H.c (H.c .nil)))))) (E.c .nil)⟩
 simp only [beq_eq_false_iff_ne, ne_eq] at hb
 rw [if_neg hb] at h
 refine AWp.skip ?_
 refine AWp.seq ?_
 refine AWp.seq ?_
 refine W.kp [0, 1, 2, 3, 4] ?_
 refine AWp.region ?_
 refine L.S (S.ld Try.underlying3) ?_
 refine L.Y Y.mv ?_
 refine AList.nil ?_
 refine AWp.block ?_
 refine AWp.loopI (fun kk e H => kk ≤ k ∧ ∃ (x17 : Int), e = [(0, .own 4 ns.length), (1, .ptr 0 0), (2, .ptr 1 0), (3, .ptr 2 0), (4, .ptr 3 0), (16, .lit (.int .i64 many)), (17, .lit (.int .i64 x17))] ∧ H = [.bx 22 [.row 1 cs.length false (ints .i64 cs)], .bx 3 [.lit (.int .i64 many)], .bx 28 [.lit (.int .i64 a0_0), .lit (.int .i64 a0_1), .row 1 l0_2.length false (ints .i64 l0_2)], .bx 62 [.fn 70 [.ptr 0 0, .ptr 1 0, .ptr 2 0, .ptr 3 0]], .sl 3 1 ns.length true (ints .i64 ns)] ∧ impl_Table_split_1.l0 kk a0_0 a0_1 l0_2 cs many ns x17 = some r) (k := k)
  ⟨_, _, ⟨Nat.le_refl _, _, rfl, rfl, h⟩, IsPart.at [] [0, 1, 2, 3, 4] base5 (H.c (H.c (H.c (H.c (H.c .nil))))) (E.c (E.c (E.c (E.c (E.c (E.c (E.c .nil)))))))⟩ ?_
 clear h
 rintro k1 e H ⟨hk1, x17, rfl, rfl, h⟩
 cases k1 with
 | zero => exact absurd h (by simp [impl_Table_split_1.l0])
 | succ k1 =>
 simp only [impl_Table_split_1.l0] at h
 refine AWp.seq ?_
 refine AWp.region ?_
 refine L.Y Y.bin ?_
 refine AList.nil ?_
 refine AWp.seq ?_
 refine W.cond (fun hb => ?_) (fun hb => ?_)
 rotate_left
 ·
  simp only [decide_eq_false_iff_not] at hb
  rw [if_neg hb] at h
  obtain rfl := Option.some.inj h
  refine AWp.exit ?_
  refine AWp.seq ?_
  refine AWp.region ?_
  refine L.Y Y.asg ?_
  refine AList.nil ?_
  refine AWp.ret ?_
  exact ⟨.inr rfl, [(6, _)], _, ⟨rfl, rfl⟩, IsPart.at [(0, 0)] [0, 1, 2, 3, 5] base5 (H.c (H.c (H.c (H.c (H.c .nil))))) (E.c .nil)⟩
 simp only [decide_eq_true_eq] at hb
 rw [if_pos hb] at h
 refine AWp.skip ?_
 refine AWp.seq ?_
 refine AWp.block ?_
 refine AWp.seq ?_
 refine AWp.region ?_
 refine L.Y Y.mv ?_
 refine L.Y Y.asg ?_
 refine AList.nil ?_
 refine AWp.seq ?_
 refine AWp.region ?_
 refine L.Y Y.mv ?_
 obtain ⟨c, hc1, h⟩ := Option.bind_eq_some_iff.1 h
 rw [Option.ite_none_right_eq_some] at h
 obtain ⟨hlim, h⟩ := h
 refine L.C (C.callE (l := true) [] Try.func71 (slices_Clone_int_int.ac _ _ hc1) .nil ?_)
 refine L.Y Y.mv ?_
 refine L.M (M.bs Try.underlying22 impl_Table_split_1.T3) ?_
 refine L.S (S.ap (nn' := true) Try.underlying22 impl_Table_split_1.T3) ?_
 refine L.Y Y.asg ?_
 refine AList.nil ?_
 obtain ⟨t, hc2, h⟩ := Option.bind_eq_some_iff.1 h
 obtain ⟨fo, hc3, h⟩ := Option.bind_eq_some_iff.1 h
 refine AWp.seq ?_
 refine W.kp [0, 1, 2, 3, 4, 7, 8, 16, 17] ?_
 refine AWp.seq ?_
 refine Dt.reg [] [] (.t 0 (.t 1 (.y 2 (.y 3 (.one 4 (.one 5 (.y 6 .done))))))) impl_Table_split_1.HMx ?_
 refine Dt.T rfl wantN (D.ldN Try.underlying28 impl_Table_split_1.T28) ?_
 refine Dt.T rfl wantN (D.ld Try.underlying22) ?_
 refine Dt.Y rfl wantN Y.mv ?_
 refine Dt.Y rfl wantN Y.mv ?_
 refine Dt.O (g' := false) rfl wantN ?_
 refine Ox.C true [] Try.func62 (impl_cellsWith.ac _ _ _ _ _ hc2) .nil ?_
 refine Dt.O (g' := false) rfl wantN ?_
 rcases Classical.em (fo = []) with hq | hq
 ·
  rw [if_pos hq] at h
  refine Ox.C true [] Try.func54 ((impl_Table_freeOrder.acq _ _ _ _ _ _ hc3).conseq (fun _ _ q => q.elim (fun z => z.2) (fun z => absurd hq z.1))) .nil ?_
  refine Dt.Y rfl wantN (Y.nq Try.underlying22) ?_
  refine Dt.nil ?_
  refine W.cond (fun hb => ?_) (fun hb => ?_)
  rotate_left
  ·
   exact absurd hb (by decide)
  refine AWp.exit ?_
  refine W.kp [0, 1, 2, 3, 4, 16, 17] ?_
  refine AWp.region ?_
  refine L.Y Y.bin ?_
  refine L.Y Y.mv ?_
  refine AList.nil ?_
  exact ⟨k1, by omega, _, _, ⟨by omega, _, rfl, rfl, h⟩, IsPart.at [] [0, 1, 2, 3, 4] base5 (H.c (H.c (H.c (H.c (H.c .nil))))) (E.c (E.c (E.c (E.c (E.c (E.c (E.c .nil)))))))⟩
 rw [if_neg hq] at h
 refine Ox.C true [] Try.func54 ((impl_Table_freeOrder.acq _ _ _ _ _ _ hc3).conseq (fun _ _ q => q.elim (fun z => absurd z.1 hq) (fun z => z.2))) .nil ?_
 refine Dt.Y rfl wantN (Y.nq Try.underlying22) ?_
 refine Dt.nil ?_
 refine W.cond (fun hb => ?_) (fun hb => ?_)
 ·
  exact absurd hb (by decide)
 refine AWp.skip ?_
 refine AWp.seq ?_
 refine W.kp [0, 1, 2, 3, 4, 8, 16, 17] ?_
 refine AWp.region ?_
 refine L.S (S.ld Try.underlying62) ?_
 refine L.Y Y.mv ?_
 obtain ⟨ro, hc4, h⟩ := Option.bind_eq_some_iff.1 h
 have hR := ih k1 (by omega) _ _ _ _ _ _ _ hc4
 cases ro with
 | none =>
  refine L.C (C.callE (l := false) [0, 1, 2, 3, 5] Try.func70 hR (H.c (H.c (H.c (H.c (H.c .nil))))) ?_)
  refine L.Y Y.asg ?_
  refine AList.nil ?_
  refine AWp.seq ?_
  refine AWp.region ?_
  refine L.Y Y.mv ?_
  refine L.Y (Y.nn (hb := by first | exact rfl | exact (if_pos ⟨rfl, rfl⟩ : (if (true = true) ∧ y.length = y.length then some false else none) = some false)) Try.underlying22) ?_
  refine AList.nil ?_
  refine W.cond (fun hb => ?_) (fun hb => ?_)
  ·
   exact absurd hb (by decide)
  refine AWp.skip ?_
  refine W.kp [0, 1, 2, 3, 4, 16, 17] ?_
  refine AWp.region ?_
  refine L.Y Y.bin ?_
  refine L.Y Y.mv ?_
  refine AList.nil ?_
  exact ⟨k1, by omega, _, _, ⟨by omega, _, rfl, rfl, h⟩, IsPart.at [] [0, 1, 2, 3, 4] base5 (H.c (H.c (H.c (H.c (H.c .nil))))) (E.c (E.c (E.c (E.c (E.c (E.c (E.c .nil)))))))⟩
 | some y =>
  obtain rfl := Option.some.inj h
  refine L.C (C.callE (l := false) [0, 1, 2, 3, 5] Try.func70 hR (H.c (H.c (H.c (H.c (H.c .nil))))) ?_)
  refine L.Y Y.asg ?_
  refine AList.nil ?_
  refine AWp.seq ?_
  refine AWp.region ?_
  refine L.Y Y.mv ?_
  refine L.Y (Y.nn (hb := by first | exact rfl | exact (if_pos ⟨rfl, rfl⟩ : (if (true = true) ∧ y.length = y.length then some false else none) = some false)) Try.underlying22) ?_
  refine AList.nil ?_
  refine W.cond (fun hb => ?_) (fun hb => ?_)
  rotate_left
  ·
   exact absurd hb (by decide)
  refine AWp.seq ?_
  refine AWp.region ?_
  refine L.Y Y.mv ?_
  refine L.Y Y.asg ?_
  refine AList.nil ?_
  refine AWp.ret ?_
  exact ⟨.inr rfl, [(6, _)], _, ⟨rfl, rfl⟩, IsPart.at [] [0, 1, 2, 3, 5, 9] base5 (H.c (H.c (H.c (H.c (H.c (H.c .nil)))))) (E.c .nil)⟩

/-! ### impl_Table_split: function 48 -/
def impl_Table_split.f (k : Nat) (a0_0 : Int) (a0_1 : Int) (l0_2 : List Int) (a1 : Int) : Option (Option (List Int)) := (impl_Table_emptyCells.f k a0_0 a0_1 l0_2).bind fun cs => impl_Table_split_1.f k a0_0 a0_1 l0_2 cs a1 []
set_option maxRecDepth 100000 in
set_option maxHeartbeats 20000000 in
theorem impl_Table_split.aco (k : Nat) (a0_0 : Int) (a0_1 : Int) (l0_2 : List Int) (a1 : Int) (r : Option (List Int)) (h : impl_Table_split.f k a0_0 a0_1 l0_2 a1 = some r) :
  ACalls Try.prog 48 [.agg [.lit (.int .i64 a0_0), .lit (.int .i64 a0_1), .row 1 l0_2.length false (ints .i64 l0_2)], .lit (.int .i64 a1)] []
   (fun v H' => match (generalizing := false) r with | none => v = .lit (.slice none 0 0) ∧ H' = [] | some y => v = .own 0 y.length ∧ H' = [.sl 3 1 y.length true (ints .i64 y)]) := by
 refine ACalls.ofP [4] Try.func48 rfl (by exact Nat.le_of_ble_eq_true rfl) rfl (by decide) ?_
 simp only [Try.ntmps48, env0, impl_Table_split.f] at h ⊢
 obtain ⟨cs, hc1, hc2⟩ := Option.bind_eq_some_iff.1 h
 clear h
 have hR := impl_Table_split_1.ac _ _ _ _ _ _ _ _ hc2
 refine AWp.seq ?_
 refine AWp.region ?_
 refine L.M M.bx ?_
 refine L.M M.bx ?_
 refine L.Y Y.asg ?_
 refine AList.nil ?_
 refine AWp.seq ?_
 refine AWp.region ?_
 refine L.S (S.ldN Try.underlying28 impl_Table_split_1.T28) ?_
 refine L.C (C.callE (l := true) [] Try.func63 (impl_Table_emptyCells.ac _ _ _ _ _ hc1) .nil ?_)
 refine L.M (M.al impl_Table_split_1.T22) ?_
 refine L.S (S.stb impl_Table_split_1.T22) ?_
 refine AList.nil ?_
 refine AWp.seq ?_
 refine AWp.region ?_
 refine L.M (M.al impl_Table_split_1.T62) ?_
 refine AList.nil ?_
 refine AWp.seq ?_
 refine AWp.region ?_
 refine L.Y Y.fn ?_
 refine L.S (S.stb impl_Table_split_1.T62) ?_
 refine AList.nil ?_
 refine AWp.seq ?_
 refine AWp.region ?_
 refine L.S (S.ld Try.underlying62) ?_
 refine L.M (M.bs Try.underlying22 impl_Table_split_1.T3) ?_
 refine L.fz 2 ?_
 cases r with
 | none =>
  refine L.C (C.callE (l := false) [3, 1, 0, 4, 5] Try.func70 hR (H.c (H.c (H.c (H.c (H.c .nil))))) ?_)
  refine L.Y Y.asg ?_
  refine AList.nil ?_
  refine AWp.ret ?_
  exact ⟨.inr rfl, [(4, _)], _, ⟨rfl, rfl⟩, IsPart.at [] [] base0 .nil (E.c .nil)⟩
 | some y =>
  refine L.C (C.callE (l := false) [3, 1, 0, 4, 5] Try.func70 hR (H.c (H.c (H.c (H.c (H.c .nil))))) ?_)
  refine L.Y Y.asg ?_
  refine AList.nil ?_
  refine AWp.ret ?_
  exact ⟨.inr rfl, [(4, _)], _, ⟨rfl, rfl⟩, IsPart.at [] [6] base0 (H.c .nil) (E.c .nil)⟩
/-- A split that is there. -/
def impl_Table_splitN.f (k : Nat) (a0_0 : Int) (a0_1 : Int) (l0_2 : List Int) (a1 : Int) : Option (List Int) := (impl_Table_split.f k a0_0 a0_1 l0_2 a1).bind id
theorem impl_Table_splitN.ac (k : Nat) (a0_0 : Int) (a0_1 : Int) (l0_2 : List Int) (a1 : Int) (r : List Int) (h : impl_Table_splitN.f k a0_0 a0_1 l0_2 a1 = some r) :
  ACalls Try.prog 48 [.agg [.lit (.int .i64 a0_0), .lit (.int .i64 a0_1), .row 1 l0_2.length false (ints .i64 l0_2)], .lit (.int .i64 a1)] []
   (fun v H' => v = .own 0 r.length ∧ H' = [.sl 3 1 r.length true (ints .i64 r)]) := by
 obtain ⟨o, h1, h2⟩ := Option.bind_eq_some_iff.1 h
 have h3 : o = some r := h2
 subst h3
 exact impl_Table_split.aco k a0_0 a0_1 l0_2 a1 (some r) h1

/-! ### impl_Table_leastParts: function 45 -/
def impl_Table_leastParts.l0 : Nat → Int → Int → List Int → Int → Option Int
 | 0, _, _, _, _ => none
 | k + 1, a0, a1, l0, x3 => if x3 ≤ 4 then ((impl_Table_split.f k a0 a1 l0 x3).bind fun r => (match r with | some _ => some x3 | none => impl_Table_leastParts.l0 k a0 a1 l0 (wrap64 (x3 + 1)))) else some 0
def impl_Table_leastParts.f (k : Nat) (a0_0 : Int) (a0_1 : Int) (l0_2 : List Int) : Option Int := impl_Table_leastParts.l0 k a0_0 a0_1 l0_2 1
set_option maxRecDepth 100000 in
set_option maxHeartbeats 20000000 in
theorem impl_Table_leastParts.ac (k : Nat) (a0_0 : Int) (a0_1 : Int) (l0_2 : List Int) (r : Int) (h : impl_Table_leastParts.f k a0_0 a0_1 l0_2 = some r) :
  ACalls Try.prog 45 [.agg [.lit (.int .i64 a0_0), .lit (.int .i64 a0_1), .row 1 l0_2.length false (ints .i64 l0_2)]] [] (fun v H' => v = .lit (.int .i64 r) ∧ H' = []) := by
 refine ACalls.ofP [2] Try.func45 rfl (by exact Nat.le_of_ble_eq_true rfl) rfl (by decide) ?_
 simp only [Try.ntmps45, env0, impl_Table_leastParts.f] at h ⊢
 refine AWp.seq ?_
 refine AWp.region ?_
 refine L.M M.bx ?_
 refine L.Y Y.asg ?_
 refine AList.nil ?_
 refine AWp.seq ?_
 refine AWp.seq ?_
 refine AWp.region ?_
 refine L.Y Y.asg ?_
 refine AList.nil ?_
 refine AWp.block ?_
 refine AWp.loopI (fun kk e H => kk ≤ k ∧ ∃ (x3 : Int), e = [(1, .ptr 0 0), (3, .lit (.int .i64 x3))] ∧ H = [.bx 28 [.lit (.int .i64 a0_0), .lit (.int .i64 a0_1), .row 1 l0_2.length false (ints .i64 l0_2)]] ∧ impl_Table_leastParts.l0 kk a0_0 a0_1 l0_2 x3 = some r) (k := k)
  ⟨_, _, ⟨Nat.le_refl _, _, rfl, rfl, h⟩, IsPart.at [] [0] base0 (H.c .nil) (E.c (E.c .nil))⟩ ?_
 clear h
 rintro k1 e H ⟨hk1, x3, rfl, rfl, h⟩
 cases k1 with
 | zero => exact absurd h (by simp [impl_Table_leastParts.l0])
 | succ k1 =>
 simp only [impl_Table_leastParts.l0] at h
 refine AWp.seq ?_
 refine AWp.seq ?_
 refine AWp.region ?_
 refine L.Y Y.mv ?_
 refine L.Y Y.bin ?_
 refine AList.nil ?_
 refine W.cond (fun hb => ?_) (fun hb => ?_)
 rotate_left
 ·
  simp only [decide_eq_false_iff_not] at hb
  rw [if_neg hb] at h
  obtain rfl := Option.some.inj h
  refine AWp.exit ?_
  refine AWp.seq ?_
  refine AWp.region ?_
  refine L.Y Y.asg ?_
  refine AList.nil ?_
  refine AWp.ret ?_
  exact ⟨.inr rfl, [(2, _)], _, ⟨rfl, rfl⟩, IsPart.at [] [] base0 .nil (E.c .nil)⟩
 simp only [decide_eq_true_eq] at hb
 rw [if_pos hb] at h
 refine AWp.skip ?_
 refine AWp.seq ?_
 refine AWp.block ?_
 obtain ⟨ro, hc1, h⟩ := Option.bind_eq_some_iff.1 h
 have hR := impl_Table_split.aco _ _ _ _ _ _ hc1
 refine AWp.seq ?_
 refine AWp.region ?_
 refine L.S (S.ldN Try.underlying28 impl_Table_split_1.T28) ?_
 refine L.Y Y.mv ?_
 cases ro with
 | none =>
  refine L.C (C.callE (l := true) [] Try.func48 hR .nil ?_)
  refine L.Y (Y.nn (hb := by first | exact rfl | exact (if_pos ⟨rfl, rfl⟩ : (if (true = true) ∧ y.length = y.length then some false else none) = some false)) Try.underlying22) ?_
  refine AList.nil ?_
  refine W.cond (fun hb => ?_) (fun hb => ?_)
  ·
   exact absurd hb (by decide)
  refine AWp.skip ?_
  refine AWp.region ?_
  refine L.Y Y.mv ?_
  refine L.Y Y.bin ?_
  refine L.Y Y.asg ?_
  refine AList.nil ?_
  exact ⟨k1, by omega, _, _, ⟨by omega, _, rfl, rfl, h⟩, IsPart.at [] [0] base0 (H.c .nil) (E.c (E.c .nil))⟩
 | some y =>
  obtain rfl := Option.some.inj h
  refine L.C (C.callE (l := true) [] Try.func48 hR .nil ?_)
  refine L.Y (Y.nn (hb := by first | exact rfl | exact (if_pos ⟨rfl, rfl⟩ : (if (true = true) ∧ y.length = y.length then some false else none) = some false)) Try.underlying22) ?_
  refine AList.nil ?_
  refine W.cond (fun hb => ?_) (fun hb => ?_)
  rotate_left
  ·
   exact absurd hb (by decide)
  refine AWp.seq ?_
  refine AWp.region ?_
  refine L.Y Y.mv ?_
  refine L.Y Y.asg ?_
  refine AList.nil ?_
  refine AWp.ret ?_
  exact ⟨.inr rfl, [(2, _)], _, ⟨rfl, rfl⟩, IsPart.at [] [] base0 .nil (E.c .nil)⟩

/-! ### impl_LeastParts: function 11 -/
def impl_LeastParts.f (k : Nat) (a0_0 : Int) (a0_1 : Int) (l0_2 : List Int) : Option (Int × Bool) := (impl_isSplit.f k a0_0 a0_1 l0_2).bind fun t214 => (if t214 = true then ((impl_Table_leastParts.f k a0_0 a0_1 l0_2).bind fun t215 => (some (t215, decide (t215 > 0)))) else (some (0, false)))
set_option maxRecDepth 100000 in
set_option maxHeartbeats 20000000 in
theorem impl_LeastParts.ac (k : Nat) (a0_0 : Int) (a0_1 : Int) (l0_2 : List Int) (r1 : Int) (r2 : Bool) (h : impl_LeastParts.f k a0_0 a0_1 l0_2 = some (r1, r2)) :
  ACalls Try.prog 11 [.agg [.lit (.int .i64 a0_0), .lit (.int .i64 a0_1), .row 1 l0_2.length false (ints .i64 l0_2)]] [] (fun v H' => v = .tup [.lit (.int .i64 r1), .lit (.bool r2)] ∧ H' = []) := by
 refine ACalls.ofP [2, 3] Try.func11 rfl (by exact Nat.le_of_ble_eq_true rfl) rfl (by decide) ?_
 simp only [Try.ntmps11, env0, impl_LeastParts.f] at h ⊢
 refine AWp.seq ?_
 refine AWp.region ?_
 refine L.M M.bx ?_
 refine L.Y Y.asg ?_
 refine L.Y Y.asg ?_
 refine AList.nil ?_
 refine AWp.seq ?_
 refine AWp.seq ?_
 refine AWp.region ?_
 refine L.S (S.ldN Try.underlying28 Y28) ?_
 obtain ⟨t214, hc1, h⟩ := Option.bind_eq_some_iff.1 h
 refine L.C (C.callE (l := true) [] Try.func44 (impl_isSplit.ac _ _ _ _ _ hc1) .nil ?_)
 refine L.Y Y.nt ?_
 refine AList.nil ?_
 refine W.cond (fun hb => ?_) (fun hb => ?_)
 ·
  have hb2 := hb
  try simp only [hS, hE, ne_eq] at hb
  first | rw [if_pos hb2] at h | rw [if_neg (Bool.eq_false_iff.1 hb2)] at h | rw [if_pos hb] at h | rw [if_neg hb] at h | (simp only [hb, hT, reduceIte] at h) | skip
  refine AWp.seq ?_
  refine AWp.region ?_
  refine L.Y Y.asg ?_
  refine L.Y Y.asg ?_
  refine AList.nil ?_
  simp only [Option.some.injEq, Prod.mk.injEq] at h
  obtain ⟨rfl, rfl⟩ := h
  refine AWp.ret ?_
  exact ⟨.inr rfl, [(2, _), (3, _)], _, ⟨rfl, rfl⟩, IsPart.at [] [] base0 .nil (E.c (E.c .nil))⟩
 ·
  have hb2 := hb
  try simp only [hS, hE, ne_eq] at hb
  first | rw [if_pos hb2] at h | rw [if_neg (Bool.eq_false_iff.1 hb2)] at h | rw [if_pos hb] at h | rw [if_neg hb] at h | (simp only [hb, hT, reduceIte] at h) | skip
  refine AWp.skip ?_
  refine AWp.seq ?_
  refine AWp.region ?_
  refine L.S (S.ldN Try.underlying28 Y28) ?_
  obtain ⟨t215, hc3, h⟩ := Option.bind_eq_some_iff.1 h
  refine L.C (C.callE (l := true) [] Try.func45 (impl_Table_leastParts.ac _ _ _ _ _ hc3) .nil ?_)
  refine L.Y Y.asg ?_
  refine AList.nil ?_
  refine AWp.seq ?_
  refine W.kp [0, 1, 2, 3, 4, 7] ?_
  refine AWp.region ?_
  refine L.Y Y.mv ?_
  refine L.Y Y.mv ?_
  refine L.Y Y.bin ?_
  refine L.Y Y.asg ?_
  refine L.Y Y.asg ?_
  refine AList.nil ?_
  simp only [Option.some.injEq, Prod.mk.injEq] at h
  obtain ⟨rfl, rfl⟩ := h
  refine AWp.ret ?_
  exact ⟨.inr rfl, [(2, _), (3, _)], _, ⟨rfl, rfl⟩, IsPart.at [] [] base0 .nil (E.c (E.c .nil))⟩

/-! ### spec_SplitCells: function 13 -/
def spec_SplitCells.j0 : Nat → Int → Bool → Int → Int → List Int → Option (List Int × Bool)
 | 0, _, _, _, _, _ => none
 | k + 1, x1, x13, x217000, x217001, x217002 => if x13 = true then (some (([] : List Int), false)) else ((spec_feEmpty.f k x217000 x217001 x217002).bind fun t219 => ((spec_feSplit.f k x217000 x217001 x217002 t219 ([] : List Int) x1).bind fun bt222 => (some (bt222.1, bt222.2))))
def spec_SplitCells.f (k : Nat) (a0_0 : Int) (a0_1 : Int) (l0_2 : List Int) (a1 : Int) : Option (List Int × Bool) := (spec_feFew.f k a0_0 a0_1 l0_2).bind fun t217 => (if t217 = true then ((spec_l1In.f a1 1 4).bind fun t218 => (spec_SplitCells.j0 k a1 (!t218) a0_0 a0_1 l0_2)) else (spec_SplitCells.j0 k a1 true a0_0 a0_1 l0_2))
set_option maxRecDepth 100000 in
set_option maxHeartbeats 20000000 in
theorem spec_SplitCells.ac (k : Nat) (a0_0 : Int) (a0_1 : Int) (l0_2 : List Int) (a1 : Int) (r1 : List Int) (r2 : Bool) (h : spec_SplitCells.f k a0_0 a0_1 l0_2 a1 = some (r1, r2)) :
  ACalls Try.prog 13 [.agg [.lit (.int .i64 a0_0), .lit (.int .i64 a0_1), .row 1 l0_2.length false (ints .i64 l0_2)], .lit (.int .i64 a1)] [] (fun v H' => v = .tup [.own 0 r1.length, .lit (.bool r2)] ∧ H' = [.sl 3 1 r1.length false (ints .i64 r1)]) := by
 refine ACalls.ofP [4, 5] Try.func13 rfl (by exact Nat.le_of_ble_eq_true rfl) rfl (by decide) ?_
 simp only [Try.ntmps13, env0, spec_SplitCells.f] at h ⊢
 refine AWp.seq ?_
 refine AWp.region ?_
 refine L.M M.bx ?_
 refine L.Y Y.asg ?_
 refine L.Y Y.asg ?_
 refine AList.nil ?_
 refine AWp.seq ?_
 refine AWp.seq ?_
 refine AWp.region ?_
 refine L.S (S.ldN Try.underlying28 Y28) ?_
 obtain ⟨t217, hc1, h⟩ := Option.bind_eq_some_iff.1 h
 refine L.C (C.callE (l := true) [] Try.func40 (spec_feFew.ac _ _ _ _ _ hc1) .nil ?_)
 refine L.Y Y.nt ?_
 refine L.Y Y.mv ?_
 refine L.Gc (fun hb => ?_) (fun hb => ?_)
 ·
  have hb2 := hb
  try simp only [hS, hE, ne_eq] at hb
  first | rw [if_pos hb2] at h | rw [if_neg (Bool.eq_false_iff.1 hb2)] at h | rw [if_pos hb] at h | rw [if_neg hb] at h | (simp only [hb, hT, reduceIte] at h) | skip
  refine L.Gn hb2 ?_
  refine L.Gn hb2 ?_
  refine L.Gn hb2 ?_
  refine L.Y (Y.pk (c := true) hb2) ?_
  refine AList.nil ?_
  rcases k with _ | k
  ·
   exact absurd h (by simp [spec_SplitCells.j0])
  simp only [spec_SplitCells.j0] at h
  refine W.cond (fun hb => ?_) (fun hb => ?_)
  rotate_left
  ·
   exact DD hb
  have hb3 := hb
  try (first | rw [if_pos hb3] at h | rw [if_neg (Bool.eq_false_iff.1 hb3)] at h | rw [if_pos hb] at h | rw [if_neg hb] at h | (simp only [hb, hT, reduceIte] at h) | skip)
  refine AWp.seq ?_
  refine W.kp [0, 1, 2, 4, 5, 13] ?_
  refine AWp.region ?_
  refine L.Y Y.asg ?_
  refine L.Y Y.asg ?_
  refine AList.nil ?_
  simp only [Option.some.injEq, Prod.mk.injEq] at h
  obtain ⟨rfl, rfl⟩ := h
  refine AWp.ret ?_
  exact ⟨.inr rfl, [(4, _), (5, _)], _, ⟨rfl, rfl⟩, IsPart.at [(3, 1)] [1] base0 (H.c .nil) (E.c (E.c .nil))⟩
 ·
  have hb2 := hb
  try simp only [hS, hE, ne_eq] at hb
  first | rw [if_pos hb2] at h | rw [if_neg (Bool.eq_false_iff.1 hb2)] at h | rw [if_pos hb] at h | rw [if_neg hb] at h | (simp only [hb, hT, reduceIte] at h) | skip
  refine L.Gy hb2 Y.mv ?_
  obtain ⟨t218, hc4, h⟩ := Option.bind_eq_some_iff.1 h
  refine L.GC hb2 (C.callE (l := true) [] Try.func46 (spec_l1In.ac _ _ _ _ hc4) .nil ?_)
  refine L.Gy hb2 Y.nt ?_
  refine L.Y (Y.pk (c := false) hb2) ?_
  refine AList.nil ?_
  rcases k with _ | k
  ·
   exact absurd h (by simp [spec_SplitCells.j0])
  simp only [spec_SplitCells.j0] at h
  refine W.cond (fun hb => ?_) (fun hb => ?_)
  ·
   have hb5 := hb
   try simp only [hS, hE, ne_eq] at hb
   first | rw [if_pos hb5] at h | rw [if_neg (Bool.eq_false_iff.1 hb5)] at h | rw [if_pos hb] at h | rw [if_neg hb] at h | (simp only [hb, hT, reduceIte] at h) | skip
   refine AWp.seq ?_
   refine W.kp [0, 1, 2, 4, 5, 13] ?_
   refine AWp.region ?_
   refine L.Y Y.asg ?_
   refine L.Y Y.asg ?_
   refine AList.nil ?_
   simp only [Option.some.injEq, Prod.mk.injEq] at h
   obtain ⟨rfl, rfl⟩ := h
   refine AWp.ret ?_
   exact ⟨.inr rfl, [(4, _), (5, _)], _, ⟨rfl, rfl⟩, IsPart.at [(3, 1)] [1] base0 (H.c .nil) (E.c (E.c .nil))⟩
  ·
   have hb5 := hb
   try simp only [hS, hE, ne_eq] at hb
   first | rw [if_pos hb5] at h | rw [if_neg (Bool.eq_false_iff.1 hb5)] at h | rw [if_pos hb] at h | rw [if_neg hb] at h | (simp only [hb, hT, reduceIte] at h) | skip
   refine AWp.skip ?_
   refine AWp.seq ?_
   refine W.kp [0, 1, 2, 4, 5, 13] ?_
   refine Dt.reg [] [4] (.t 0 (.t 1 (.y 3 (.one 2 (.last 4 (.y 5 (.y 6 (.y 7 (.y 8 .done))))))))) HM ?_
   refine Dt.T rfl wantN (D.ldN Try.underlying28 Y28) ?_
   refine Dt.T rfl wantN (D.ldN Try.underlying28 Y28) ?_
   refine Dt.Y rfl wantN Y.mv ?_
   refine Dt.O (g' := false) rfl wantN ?_
   obtain ⟨t219, hc6, h⟩ := Option.bind_eq_some_iff.1 h
   refine Ox.C true [] Try.func42 (spec_feEmpty.ac _ _ _ _ _ hc6) .nil ?_
   refine Dt.L rfl wantN ?_
   obtain ⟨⟨t222, t225⟩, hc7, h⟩ := Option.bind_eq_some_iff.1 h
   dsimp only at h
   refine C.nil 3 1 ?_
   refine C.callE (l := true) [2] Try.func41 (spec_feSplit.ac _ _ _ _ _ _ _ _ _ hc7) (H.c .nil) ?_
   refine Du.Y rfl wantN Y.ex ?_
   refine Du.Y rfl wantN Y.ex ?_
   refine Du.Y rfl wantN Y.asg ?_
   refine Du.Y rfl wantN Y.asg ?_
   refine Du.nil ?_
   simp only [Option.some.injEq, Prod.mk.injEq] at h
   obtain ⟨rfl, rfl⟩ := h
   refine AWp.ret ?_
   exact ⟨.inr rfl, [(4, _), (5, _)], _, ⟨rfl, rfl⟩, IsPart.at [] [3] base0 (H.c .nil) (E.c (E.c .nil))⟩

/-! ### impl_SplitCells: function 14 -/
def impl_SplitCells.f (k : Nat) (a0_0 : Int) (a0_1 : Int) (l0_2 : List Int) (a1 : Int) : Option (List Int × Bool) := (impl_isSplit.f k a0_0 a0_1 l0_2).bind fun t => (if t = true then ((impl_within.f a1 1 4).bind fun u => (if u = true then ((impl_Table_split.f k a0_0 a0_1 l0_2 a1).bind fun r => (match r with | some y => some (y, true) | none => some (([] : List Int), false))) else some (([] : List Int), false))) else some (([] : List Int), false))
set_option maxRecDepth 100000 in
set_option maxHeartbeats 20000000 in
theorem impl_SplitCells.ac (k : Nat) (a0_0 : Int) (a0_1 : Int) (l0_2 : List Int) (a1 : Int) (r1 : List Int) (r2 : Bool) (h : impl_SplitCells.f k a0_0 a0_1 l0_2 a1 = some (r1, r2)) :
  ACalls Try.prog 14 [.agg [.lit (.int .i64 a0_0), .lit (.int .i64 a0_1), .row 1 l0_2.length false (ints .i64 l0_2)], .lit (.int .i64 a1)] []
   (fun v H' => v = .tup [.own 0 r1.length, .lit (.bool r2)] ∧ H' = [.sl 3 1 r1.length false (ints .i64 r1)]) := by
 refine ACalls.ofP [4, 5] Try.func14 rfl (by exact Nat.le_of_ble_eq_true rfl) rfl (by decide) ?_
 simp only [Try.ntmps14, env0, impl_SplitCells.f] at h ⊢
 refine AWp.seq ?_
 refine AWp.region ?_
 refine L.M M.bx ?_
 refine L.Y Y.asg ?_
 refine L.Y Y.asg ?_
 refine AList.nil ?_
 refine AWp.seq ?_
 refine AWp.seq ?_
 refine AWp.region ?_
 refine L.S (S.ldN Try.underlying28 impl_Table_split_1.T28) ?_
 obtain ⟨t, hc1, h⟩ := Option.bind_eq_some_iff.1 h
 refine L.C (C.callE (l := true) [] Try.func44 (impl_isSplit.ac _ _ _ _ _ hc1) .nil ?_)
 refine L.Y Y.nt ?_
 refine L.Y Y.mv ?_
 cases t with
 | false =>
  rw [if_neg (by decide)] at h
  simp only [Option.some.injEq, Prod.mk.injEq] at h
  obtain ⟨rfl, rfl⟩ := h
  refine L.Gn rfl ?_
  refine L.Gn rfl ?_
  refine L.Gn rfl ?_
  refine L.Y (Y.pk (c := true) rfl) ?_
  refine AList.nil ?_
  refine W.cond (fun hb => ?_) (fun hb => ?_)
  rotate_left
  ·
   exact absurd hb (by decide)
  refine AWp.seq ?_
  refine AWp.region ?_
  refine L.Y Y.asg ?_
  refine L.Y Y.asg ?_
  refine AList.nil ?_
  refine AWp.ret ?_
  exact ⟨.inr rfl, [(4, _), (5, _)], _, ⟨rfl, rfl⟩, IsPart.at [(3, 1)] [1] base0 (H.c .nil) (E.c (E.c .nil))⟩
 | true =>
  rw [if_pos rfl] at h
  obtain ⟨u, hc2, h⟩ := Option.bind_eq_some_iff.1 h
  refine L.Gy rfl Y.mv ?_
  refine L.GC rfl (C.callE (l := true) [] Try.func47 (impl_within.ac _ _ _ _ hc2) .nil ?_)
  refine L.Gy rfl Y.nt ?_
  refine L.Y (Y.pk (c := false) rfl) ?_
  refine AList.nil ?_
  cases u with
  | false =>
   rw [if_neg (by decide)] at h
   simp only [Option.some.injEq, Prod.mk.injEq] at h
   obtain ⟨rfl, rfl⟩ := h
   refine W.cond (fun hb => ?_) (fun hb => ?_)
   rotate_left
   ·
    exact absurd hb (by decide)
   refine AWp.seq ?_
   refine AWp.region ?_
   refine L.Y Y.asg ?_
   refine L.Y Y.asg ?_
   refine AList.nil ?_
   refine AWp.ret ?_
   exact ⟨.inr rfl, [(4, _), (5, _)], _, ⟨rfl, rfl⟩, IsPart.at [(3, 1)] [1] base0 (H.c .nil) (E.c (E.c .nil))⟩
  | true =>
   rw [if_pos rfl] at h
   refine W.cond (fun hb => ?_) (fun hb => ?_)
   ·
    exact absurd hb (by decide)
   refine AWp.skip ?_
   refine AWp.seq ?_
   refine W.kp [1, 2] ?_
   refine AWp.region ?_
   refine L.S (S.ldN Try.underlying28 impl_Table_split_1.T28) ?_
   refine L.Y Y.mv ?_
   obtain ⟨ro, hc3, h⟩ := Option.bind_eq_some_iff.1 h
   have hR := impl_Table_split.aco _ _ _ _ _ _ hc3
   cases ro with
   | none =>
    simp only [Option.some.injEq, Prod.mk.injEq] at h
    obtain ⟨rfl, rfl⟩ := h
    refine L.C (C.callE (l := true) [] Try.func48 hR .nil ?_)
    refine L.Y Y.asg ?_
    refine AList.nil ?_
    refine AWp.seq ?_
    refine AWp.region ?_
    refine L.Y Y.mv ?_
    refine L.Y Y.mv ?_
    refine L.Y (Y.nn (hb := by first | exact rfl | exact (if_pos ⟨rfl, rfl⟩ : (if (true = true) ∧ y.length = y.length then some false else none) = some false)) Try.underlying22) ?_
    refine L.Y Y.asg ?_
    refine L.Y Y.asg ?_
    refine AList.nil ?_
    refine AWp.ret ?_
    exact ⟨.inr rfl, [(4, _), (5, _)], _, ⟨rfl, rfl⟩, IsPart.at [(3, 1)] [1] base0 (H.c .nil) (E.c (E.c .nil))⟩
   | some y =>
    simp only [Option.some.injEq, Prod.mk.injEq] at h
    obtain ⟨rfl, rfl⟩ := h
    refine L.C (C.callE (l := true) [] Try.func48 hR .nil ?_)
    refine L.Y Y.asg ?_
    refine AList.nil ?_
    refine AWp.seq ?_
    refine AWp.region ?_
    refine L.Y Y.mv ?_
    refine L.Y Y.mv ?_
    refine L.Y (Y.nn (hb := by first | exact rfl | exact (if_pos ⟨rfl, rfl⟩ : (if (true = true) ∧ y.length = y.length then some false else none) = some false)) Try.underlying22) ?_
    refine L.Y Y.asg ?_
    refine L.Y Y.asg ?_
    refine AList.nil ?_
    refine AWp.ret ?_
    exact ⟨.inr rfl, [(4, _), (5, _)], _, ⟨rfl, rfl⟩, IsPart.at [] [1] base0 (H.c .nil) (E.c (E.c .nil))⟩

/-! ### laws_big: function 19 -/
def laws_big.f (l0 : List Int) (l1 : List Int) : Option (Bool) := if (l0.length : Int) > 1048576 then (some true) else (some (decide ((l1.length : Int) > (wrap64 (1048576 - (l0.length : Int))))))
set_option maxRecDepth 100000 in
set_option maxHeartbeats 20000000 in
theorem laws_big.ac (l0 : List Int) (l1 : List Int) (r : Bool) (h : laws_big.f l0 l1 = some r) :
  ACalls Try.prog 19 [.row 1 l0.length false (ints .u8 l0), .row 1 l1.length false (ints .u8 l1)] [] (fun v H' => v = .lit (.bool r) ∧ H' = []) := by
 refine ACalls.ofP [4] Try.func19 rfl (by exact Nat.le_of_ble_eq_true rfl) rfl (by decide) ?_
 simp only [Try.ntmps19, env0, laws_big.f] at h ⊢
 refine AWp.seq ?_
 refine AWp.region ?_
 refine L.Y Y.asg ?_
 refine AList.nil ?_
 refine AWp.seq ?_
 refine AWp.region ?_
 refine L.Y Y.mv ?_
 refine L.Y (Y.ln Try.underlying38) ?_
 refine L.Y Y.bin ?_
 refine L.Y Y.mv ?_
 refine L.Gc (fun hb => ?_) (fun hb => ?_)
 ·
  have hb1 := hb
  try simp only [hS, hE, ne_eq] at hb
  first | rw [if_pos hb1] at h | rw [if_neg (Bool.eq_false_iff.1 hb1)] at h | rw [if_pos hb] at h | rw [if_neg hb] at h | (simp only [hb, hT, reduceIte] at h) | skip
  refine L.Gn hb1 ?_
  refine L.Gn hb1 ?_
  refine L.Gn hb1 ?_
  refine L.Gn hb1 ?_
  refine L.Gn hb1 ?_
  refine L.Gn hb1 ?_
  refine L.Y (Y.pk (c := true) hb1) ?_
  refine L.Y Y.asg ?_
  refine AList.nil ?_
  obtain rfl := Option.some.inj h
  refine AWp.ret ?_
  exact ⟨.inr rfl, [(4, _)], _, ⟨rfl, rfl⟩, IsPart.at [] [] base0 .nil (E.c .nil)⟩
 ·
  have hb1 := hb
  try simp only [hS, hE, ne_eq] at hb
  first | rw [if_pos hb1] at h | rw [if_neg (Bool.eq_false_iff.1 hb1)] at h | rw [if_pos hb] at h | rw [if_neg hb] at h | (simp only [hb, hT, reduceIte] at h) | skip
  refine L.Gy hb1 Y.mv ?_
  refine L.Gy hb1 (Y.ln Try.underlying38) ?_
  refine L.Gy hb1 Y.mv ?_
  refine L.Gy hb1 (Y.ln Try.underlying38) ?_
  refine L.Gy hb1 Y.bin ?_
  refine L.Gy hb1 Y.bin ?_
  refine L.Y (Y.pk (c := false) hb1) ?_
  refine L.Y Y.asg ?_
  refine AList.nil ?_
  obtain rfl := Option.some.inj h
  refine AWp.ret ?_
  exact ⟨.inr rfl, [(4, _)], _, ⟨rfl, rfl⟩, IsPart.at [] [] base0 .nil (E.c .nil)⟩

/-! ### impl_isIncreasing: function 74 -/
def impl_isIncreasing.l0 : Nat → List Int → Int → Option (Bool)
 | 0, _, _ => none
 | k + 1, x0, x3 => if x3 < (x0.length : Int) then (if 0 ≤ (wrap64 (x3 - 1)) then (if (wrap64 (x3 - 1)) < (x0.length : Int) then (if 0 ≤ x3 then (if (rd x0 (wrap64 (x3 - 1))) ≥ (rd x0 x3) then (some false) else (impl_isIncreasing.l0 k x0 (wrap64 (x3 + 1)))) else (none)) else (none)) else (none)) else (some true)
def impl_isIncreasing.f (k : Nat) (l0 : List Int) : Option (Bool) := impl_isIncreasing.l0 k l0 1
set_option maxRecDepth 100000 in
set_option maxHeartbeats 20000000 in
theorem impl_isIncreasing.ac (k : Nat) (l0 : List Int) (r : Bool) (h : impl_isIncreasing.f k l0 = some r) :
  ACalls Try.prog 74 [.row 1 l0.length false (ints .i64 l0)] [] (fun v H' => v = .lit (.bool r) ∧ H' = []) := by
 refine ACalls.ofP [2] Try.func74 rfl (by exact Nat.le_of_ble_eq_true rfl) rfl (by decide) ?_
 simp only [Try.ntmps74, env0, impl_isIncreasing.f] at h ⊢
 refine AWp.seq ?_
 refine AWp.region ?_
 refine L.Y Y.asg ?_
 refine AList.nil ?_
 refine AWp.seq ?_
 refine AWp.seq ?_
 refine AWp.region ?_
 refine L.Y Y.asg ?_
 refine AList.nil ?_
 refine AWp.block ?_
 refine AWp.loopI (fun kk e H => kk ≤ k ∧ ∃ (x3 : Int), e = [(0, .row 1 l0.length false (ints .i64 l0)), (3, .lit (.int .i64 x3))] ∧ H = [] ∧ impl_isIncreasing.l0 kk l0 x3 = some r) (k := k)
  ⟨_, _, ⟨Nat.le_refl _, _, rfl, rfl, h⟩, IsPart.at [] [] base0 .nil (E.c (E.c .nil))⟩ ?_
 clear h
 rintro k1 e H ⟨hk2, x3, rfl, rfl, h⟩
 cases k1 with
 | zero => exact absurd h (by simp [impl_isIncreasing.l0])
 | succ k1 =>
 simp only [impl_isIncreasing.l0] at h
 refine AWp.seq ?_
 refine AWp.seq ?_
 refine AWp.region ?_
 refine L.Y Y.mv ?_
 refine L.Y Y.mv ?_
 refine L.Y (Y.ln Try.underlying22) ?_
 refine L.Y Y.bin ?_
 refine AList.nil ?_
 refine W.cond (fun hb => ?_) (fun hb => ?_)
 ·
  have hb3 := hb
  try simp only [hS, hE, ne_eq] at hb
  first | rw [if_pos hb3] at h | rw [if_neg (Bool.eq_false_iff.1 hb3)] at h | rw [if_pos hb] at h | rw [if_neg hb] at h | (simp only [hb, hT, reduceIte] at h) | skip
  repeat (first | (rw [iN] at h; obtain ⟨_, h⟩ := h) | (rw [iP] at h; obtain ⟨_, h⟩ := h) | (simp only [bS] at h))
  refine AWp.skip ?_
  refine AWp.seq ?_
  refine AWp.block ?_
  refine AWp.seq ?_
  refine Dt.reg [] [] (.y 0 (.y 1 (.y 2 (.y 3 (.t 4 (.y 5 (.y 6 (.y 7 (.t 8 (.y 9 .done)))))))))) HM ?_
  refine Dt.Y rfl wantN Y.mv ?_
  refine Dt.Y rfl wantN Y.mv ?_
  refine Dt.Y rfl wantN Y.bin ?_
  refine Dt.Y rfl wantN (Y.ixr Try.underlying22 Y3) ?_
  refine Dt.T rfl wantN (D.ld Try.underlying3) ?_
  refine Dt.Y rfl wantN Y.mv ?_
  refine Dt.Y rfl wantN Y.mv ?_
  refine Dt.Y rfl wantN (Y.ixr Try.underlying22 Y3) ?_
  refine Dt.T rfl wantN (D.ld Try.underlying3) ?_
  refine Dt.Y rfl wantN Y.bin ?_
  refine Dt.nil ?_
  refine W.cond (fun hb => ?_) (fun hb => ?_)
  ·
   have hb4 := hb
   try simp only [hS, hE, ne_eq] at hb
   first | rw [if_pos hb4] at h | rw [if_neg (Bool.eq_false_iff.1 hb4)] at h | rw [if_pos hb] at h | rw [if_neg hb] at h | (simp only [hb, hT, reduceIte] at h) | skip
   refine AWp.seq ?_
   refine W.kp [0, 3, 7, 19] ?_
   refine AWp.region ?_
   refine L.Y Y.asg ?_
   refine AList.nil ?_
   obtain rfl := Option.some.inj h
   refine AWp.ret ?_
   exact ⟨.inr rfl, [(2, _)], _, ⟨rfl, rfl⟩, IsPart.at [] [] base0 .nil (E.c .nil)⟩
  ·
   have hb4 := hb
   try simp only [hS, hE, ne_eq] at hb
   first | rw [if_pos hb4] at h | rw [if_neg (Bool.eq_false_iff.1 hb4)] at h | rw [if_pos hb] at h | rw [if_neg hb] at h | (simp only [hb, hT, reduceIte] at h) | skip
   refine AWp.skip ?_
   refine W.kp [0, 3, 7, 19] ?_
   refine AWp.region ?_
   refine L.Y Y.mv ?_
   refine L.Y Y.bin ?_
   refine L.Y Y.asg ?_
   refine AList.nil ?_
   exact ⟨k1, by omega, _, _, ⟨by omega, _, rfl, rfl, h⟩, IsPart.at [] [] base0 .nil (E.c (E.c .nil))⟩
 ·
  have hb3 := hb
  try simp only [hS, hE, ne_eq] at hb
  first | rw [if_pos hb3] at h | rw [if_neg (Bool.eq_false_iff.1 hb3)] at h | rw [if_pos hb] at h | rw [if_neg hb] at h | (simp only [hb, hT, reduceIte] at h) | skip
  refine AWp.exit ?_
  refine AWp.seq ?_
  refine AWp.region ?_
  refine L.Y Y.asg ?_
  refine AList.nil ?_
  obtain rfl := Option.some.inj h
  refine AWp.ret ?_
  exact ⟨.inr rfl, [(2, _)], _, ⟨rfl, rfl⟩, IsPart.at [] [] base0 .nil (E.c .nil)⟩

end Go.Proofs.Ytpippjgphndjmaa.PFnMeetsOfBiorders
