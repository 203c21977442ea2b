-- Written by a program of this session's (wip/myprint2): the functions by the kit's print, the walks by awgen.py. Lean checks it.
import Derived.Test.YtpippjgphndjmaaPFnExactLeastPartsx0
import Derived.Test.YtpippjgphndjmaaPFnExactLeastPartsx4
import Derived.Test.YtpippjgphndjmaaPFnExactLeastPartsx5
namespace Go.Proofs.Ytpippjgphndjmaa.PFnExactLeastParts
open Go.RowKit Go.Proofs.YtpippjgphndjmaaW.PrintWords Go.Proofs.YtpippjgphndjmaaW.PrintLast Go.Proofs.YtpippjgphndjmaaW.PrintMore Go.Proofs.YtpippjgphndjmaaM Go.Proofs.YtpippjgphndjmaaA
attribute [local go_sem] max2_int min2_int max_two min_two max_three min_three max_four min_four   -- for this text's walks alone
set_option linter.unusedVariables false
set_option linter.unusedSimpArgs false

/-! ### impl_Table_split_1: function 70 -/
mutual
def impl_Table_split_1.l0 : Nat → Int → Int → List Int → List Int → Int → List Int → Int → Option (Option (List Int))
  | 0, _, _, _, _, _, _, _ => none
  | k + 1, a0, a1, l0, cs, many, ns, x17 => if x17 < many then ((slices_Clone_int_int.f ns).bind fun c => (if c.length < 17592186044416 then ((impl_cellsWith.f k cs (c ++ [x17]) x17).bind fun t => ((impl_Table_freeOrder.f k a0 a1 l0 t).bind fun fo => (if fo = [] then (impl_Table_split_1.l0 k a0 a1 l0 cs many ns (wrap64 (x17 + 1))) else ((impl_Table_split_1.f k a0 a1 l0 cs many (c ++ [x17])).bind fun r => (match r with | some y => some (some y) | none => impl_Table_split_1.l0 k a0 a1 l0 cs many ns (wrap64 (x17 + 1))))))) else none)) else some none
def impl_Table_split_1.f : Nat → Int → Int → List Int → List Int → Int → List Int → Option (Option (List Int))
  | 0, _, _, _, _, _, _ => none
  | k + 1, a0, a1, l0, cs, many, ns => if (ns.length : Int) = (cs.length : Int) then some (some ns) else impl_Table_split_1.l0 k a0 a1 l0 cs many ns 0
end
theorem impl_Table_split_1.mono_l : ∀ k, (∀ a0 a1 l0 cs many ns, LeO (impl_Table_split_1.f k a0 a1 l0 cs many ns) (impl_Table_split_1.f (k + 1) a0 a1 l0 cs many ns)) ∧ (∀ a0 a1 l0 cs many ns x, LeO (impl_Table_split_1.l0 k a0 a1 l0 cs many ns x) (impl_Table_split_1.l0 (k + 1) a0 a1 l0 cs many ns x))
  | 0 => ⟨fun _ _ _ _ _ _ r h => by simp [impl_Table_split_1.f] at h, fun _ _ _ _ _ _ _ r h => by simp [impl_Table_split_1.l0] at h⟩
  | k + 1 => by
    obtain ⟨ih0, ih1⟩ := impl_Table_split_1.mono_l k
    refine ⟨?_, ?_⟩
    · intro a0 a1 l0 cs many ns
      unfold impl_Table_split_1.f
      repeat' first
      | (with_reducible exact ih1 _ _ _ _ _ _ _)
      | (with_reducible exact LeO.refl _)
      | (with_reducible refine LeO.ite ?_ ?_)
    · intro a0 a1 l0 cs many ns x
      unfold impl_Table_split_1.l0
      refine LeO.ite ?_ (LeO.refl _)
      refine LeO.bind (LeO.refl _) (fun c => ?_)
      refine LeO.ite ?_ (LeO.refl _)
      refine LeO.bind (impl_cellsWith.mono _ _ _ _) (fun t => ?_)
      refine LeO.bind (impl_Table_freeOrder.mono _ _ _ _ _) (fun fo => ?_)
      refine LeO.ite (ih1 _ _ _ _ _ _ _) ?_
      refine LeO.bind (ih0 _ _ _ _ _ _) (fun r => ?_)
      cases r with
      | none => exact ih1 _ _ _ _ _ _ _
      | some y => exact LeO.refl _
theorem impl_Table_split_1.T3 : Ty Try.prog 3 1 8 (.int .i64 0) := .of (by kernel_rfl)
theorem impl_Table_split_1.T22 : Ty Try.prog 22 1 24 (.slice none 0 0) := .of (by kernel_rfl)
theorem impl_Table_split_1.T28 : Ty Try.prog 28 3 40 (.agg #[.int .i64 0, .int .i64 0, .slice none 0 0]) := .of (by kernel_rfl)
theorem impl_Table_split_1.T62 : Ty Try.prog 62 1 8 .nilFunc := .of (by kernel_rfl)
theorem impl_Table_split_1.HMx : Try.prog.follows .mixedOrders = true := by kernel_rfl
set_option maxRecDepth 100000 in
set_option maxHeartbeats 20000000 in
theorem impl_Table_split_1.ac : ∀ (k : Nat) (a0_0 a0_1 : Int) (l0_2 cs : List Int) (many : Int) (ns : List Int) (r : Option (List Int)) (_ : impl_Table_split_1.f k a0_0 a0_1 l0_2 cs many ns = some r),
    ACalls Try.prog 70 [.own 4 ns.length, .ptr 0 0, .ptr 1 0, .ptr 2 0, .ptr 3 0] [.bx 22 [.row 1 cs.length false (ints .i64 cs)], .bx 3 [.lit (.int .i64 many)], .bx 28 [.lit (.int .i64 a0_0), .lit (.int .i64 a0_1), .row 1 l0_2.length false (ints .i64 l0_2)], .bx 62 [.fn 70 [.ptr 0 0, .ptr 1 0, .ptr 2 0, .ptr 3 0]], .sl 3 1 ns.length true (ints .i64 ns)]
      (fun v H' => match (generalizing := false) r with | none => v = .lit (.slice none 0 0) ∧ H' = [.bx 22 [.row 1 cs.length false (ints .i64 cs)], .bx 3 [.lit (.int .i64 many)], .bx 28 [.lit (.int .i64 a0_0), .lit (.int .i64 a0_1), .row 1 l0_2.length false (ints .i64 l0_2)], .bx 62 [.fn 70 [.ptr 0 0, .ptr 1 0, .ptr 2 0, .ptr 3 0]], .gone] | some y => v = .own 5 y.length ∧ H' = [.bx 22 [.row 1 cs.length false (ints .i64 cs)], .bx 3 [.lit (.int .i64 many)], .bx 28 [.lit (.int .i64 a0_0), .lit (.int .i64 a0_1), .row 1 l0_2.length false (ints .i64 l0_2)], .bx 62 [.fn 70 [.ptr 0 0, .ptr 1 0, .ptr 2 0, .ptr 3 0]], .gone, .sl 3 1 y.length true (ints .i64 y)]) := by
  intro k
  induction k using Nat.strongRecOn with
  | _ k ih =>
  intro a0_0 a0_1 l0_2 cs many ns r h
  cases k with
  | zero => exact absurd h (by simp [impl_Table_split_1.f])
  | succ k =>
  refine ACalls.ofP [6] Try.func70 rfl (by exact Nat.le_of_ble_eq_true rfl) rfl (by decide) ?_
  simp only [Try.ntmps70, env0, impl_Table_split_1.f] at h ⊢
  refine AWp.seq ?_
  refine AWp.region ?_
  refine L.Y Y.asg ?_
  refine AList.nil ?_
  refine AWp.seq ?_
  refine AWp.seq ?_
  refine AWp.region ?_
  refine L.Y Y.mv ?_
  refine L.Y (Y.ln Try.underlying22) ?_
  refine L.S (S.ld Try.underlying22) ?_
  refine L.Y (Y.ln Try.underlying22) ?_
  refine L.Y Y.bin ?_
  refine AList.nil ?_
  refine W.cond (fun hb => ?_) (fun hb => ?_)
  · simp only [beq_iff_eq] at hb
    rw [if_pos hb] at h
    obtain rfl := Option.some.inj h
    refine AWp.seq ?_
    refine AWp.region ?_
    refine L.Y Y.mv ?_
    refine L.Y Y.asg ?_
    refine AList.nil ?_
    refine AWp.ret ?_
    exact ⟨.inr rfl, [(6, _)], _, ⟨rfl, rfl⟩, IsPart.at [(0, 0)] [0, 1, 2, 3, 5, 4] base5 (H.c (H.c (H.c (H.c (H.c (H.c .nil)))))) (E.c .nil)⟩
  simp only [beq_eq_false_iff_ne, ne_eq] at hb
  rw [if_neg hb] at h
  refine AWp.skip ?_
  refine AWp.seq ?_
  refine AWp.seq ?_
  refine W.kp [0, 1, 2, 3, 4] ?_
  refine AWp.region ?_
  refine L.S (S.ld Try.underlying3) ?_
  refine L.Y Y.mv ?_
  refine AList.nil ?_
  refine AWp.block ?_
  refine AWp.loopI (fun kk e H => kk ≤ k ∧ ∃ (x17 : Int), e = [(0, .own 4 ns.length), (1, .ptr 0 0), (2, .ptr 1 0), (3, .ptr 2 0), (4, .ptr 3 0), (16, .lit (.int .i64 many)), (17, .lit (.int .i64 x17))] ∧ H = [.bx 22 [.row 1 cs.length false (ints .i64 cs)], .bx 3 [.lit (.int .i64 many)], .bx 28 [.lit (.int .i64 a0_0), .lit (.int .i64 a0_1), .row 1 l0_2.length false (ints .i64 l0_2)], .bx 62 [.fn 70 [.ptr 0 0, .ptr 1 0, .ptr 2 0, .ptr 3 0]], .sl 3 1 ns.length true (ints .i64 ns)] ∧ impl_Table_split_1.l0 kk a0_0 a0_1 l0_2 cs many ns x17 = some r) (k := k)
    ⟨_, _, ⟨Nat.le_refl _, _, rfl, rfl, h⟩, IsPart.at [] [0, 1, 2, 3, 4] base5 (H.c (H.c (H.c (H.c (H.c .nil))))) (E.c (E.c (E.c (E.c (E.c (E.c (E.c .nil)))))))⟩ ?_
  clear h
  rintro k1 e H ⟨hk1, x17, rfl, rfl, h⟩
  cases k1 with
  | zero => exact absurd h (by simp [impl_Table_split_1.l0])
  | succ k1 =>
  simp only [impl_Table_split_1.l0] at h
  refine AWp.seq ?_
  refine AWp.region ?_
  refine L.Y Y.bin ?_
  refine AList.nil ?_
  refine AWp.seq ?_
  refine W.cond (fun hb => ?_) (fun hb => ?_)
  rotate_left
  · simp only [decide_eq_false_iff_not] at hb
    rw [if_neg hb] at h
    obtain rfl := Option.some.inj h
    refine AWp.exit ?_
    refine AWp.seq ?_
    refine AWp.region ?_
    refine L.Y Y.asg ?_
    refine AList.nil ?_
    refine AWp.ret ?_
    exact ⟨.inr rfl, [(6, _)], _, ⟨rfl, rfl⟩, IsPart.at [(0, 0)] [0, 1, 2, 3, 5] base5 (H.c (H.c (H.c (H.c (H.c .nil))))) (E.c .nil)⟩
  simp only [decide_eq_true_eq] at hb
  rw [if_pos hb] at h
  refine AWp.skip ?_
  refine AWp.seq ?_
  refine AWp.block ?_
  refine AWp.seq ?_
  refine AWp.region ?_
  refine L.Y Y.mv ?_
  refine L.Y Y.asg ?_
  refine AList.nil ?_
  refine AWp.seq ?_
  refine AWp.region ?_
  refine L.Y Y.mv ?_
  obtain ⟨c, hc1, h⟩ := Option.bind_eq_some_iff.1 h
  rw [Option.ite_none_right_eq_some] at h
  obtain ⟨hlim, h⟩ := h
  refine L.C (C.callE (l := true) [] Try.func71 (slices_Clone_int_int.ac _ _ hc1) .nil ?_)
  refine L.Y Y.mv ?_
  refine L.M (M.bs Try.underlying22 impl_Table_split_1.T3) ?_
  refine L.S (S.ap (nn' := true) Try.underlying22 impl_Table_split_1.T3) ?_
  refine L.Y Y.asg ?_
  refine AList.nil ?_
  obtain ⟨t, hc2, h⟩ := Option.bind_eq_some_iff.1 h
  obtain ⟨fo, hc3, h⟩ := Option.bind_eq_some_iff.1 h
  refine AWp.seq ?_
  refine W.kp [0, 1, 2, 3, 4, 7, 8, 16, 17] ?_
  refine AWp.seq ?_
  refine Dt.reg [] [] (.t 0 (.t 1 (.y 2 (.y 3 (.one 4 (.one 5 (.y 6 .done))))))) impl_Table_split_1.HMx ?_
  refine Dt.T rfl wantN (D.ldN Try.underlying28 impl_Table_split_1.T28) ?_
  refine Dt.T rfl wantN (D.ld Try.underlying22) ?_
  refine Dt.Y rfl wantN Y.mv ?_
  refine Dt.Y rfl wantN Y.mv ?_
  refine Dt.O (g' := false) rfl wantN ?_
  refine Ox.C true [] Try.func62 (impl_cellsWith.ac _ _ _ _ _ hc2) .nil ?_
  refine Dt.O (g' := false) rfl wantN ?_
  rcases Classical.em (fo = []) with hq | hq
  · rw [if_pos hq] at h
    refine Ox.C true [] Try.func54 ((impl_Table_freeOrder.acq _ _ _ _ _ _ hc3).conseq (fun _ _ q => q.elim (fun z => z.2) (fun z => absurd hq z.1))) .nil ?_
    refine Dt.Y rfl wantN (Y.nq Try.underlying22) ?_
    refine Dt.nil ?_
    refine W.cond (fun hb => ?_) (fun hb => ?_)
    rotate_left
    · exact absurd hb (by decide)
    refine AWp.exit ?_
    refine W.kp [0, 1, 2, 3, 4, 16, 17] ?_
    refine AWp.region ?_
    refine L.Y Y.bin ?_
    refine L.Y Y.mv ?_
    refine AList.nil ?_
    exact ⟨k1, by omega, _, _, ⟨by omega, _, rfl, rfl, h⟩, IsPart.at [] [0, 1, 2, 3, 4] base5 (H.c (H.c (H.c (H.c (H.c .nil))))) (E.c (E.c (E.c (E.c (E.c (E.c (E.c .nil)))))))⟩
  rw [if_neg hq] at h
  refine Ox.C true [] Try.func54 ((impl_Table_freeOrder.acq _ _ _ _ _ _ hc3).conseq (fun _ _ q => q.elim (fun z => absurd z.1 hq) (fun z => z.2))) .nil ?_
  refine Dt.Y rfl wantN (Y.nq Try.underlying22) ?_
  refine Dt.nil ?_
  refine W.cond (fun hb => ?_) (fun hb => ?_)
  · exact absurd hb (by decide)
  refine AWp.skip ?_
  refine AWp.seq ?_
  refine W.kp [0, 1, 2, 3, 4, 8, 16, 17] ?_
  refine AWp.region ?_
  refine L.S (S.ld Try.underlying62) ?_
  refine L.Y Y.mv ?_
  obtain ⟨ro, hc4, h⟩ := Option.bind_eq_some_iff.1 h
  have hR := ih k1 (by omega) _ _ _ _ _ _ _ hc4
  cases ro with
  | none =>
    refine L.C (C.callE (l := false) [0, 1, 2, 3, 5] Try.func70 hR (H.c (H.c (H.c (H.c (H.c .nil))))) ?_)
    refine L.Y Y.asg ?_
    refine AList.nil ?_
    refine AWp.seq ?_
    refine AWp.region ?_
    refine L.Y Y.mv ?_
    refine L.Y (Y.nn (hb := by first | exact rfl | exact (if_pos ⟨rfl, rfl⟩ : (if (true = true) ∧ y.length = y.length then some false else none) = some false)) Try.underlying22) ?_
    refine AList.nil ?_
    refine W.cond (fun hb => ?_) (fun hb => ?_)
    · exact absurd hb (by decide)
    refine AWp.skip ?_
    refine W.kp [0, 1, 2, 3, 4, 16, 17] ?_
    refine AWp.region ?_
    refine L.Y Y.bin ?_
    refine L.Y Y.mv ?_
    refine AList.nil ?_
    exact ⟨k1, by omega, _, _, ⟨by omega, _, rfl, rfl, h⟩, IsPart.at [] [0, 1, 2, 3, 4] base5 (H.c (H.c (H.c (H.c (H.c .nil))))) (E.c (E.c (E.c (E.c (E.c (E.c (E.c .nil)))))))⟩
  | some y =>
    obtain rfl := Option.some.inj h
    refine L.C (C.callE (l := false) [0, 1, 2, 3, 5] Try.func70 hR (H.c (H.c (H.c (H.c (H.c .nil))))) ?_)
    refine L.Y Y.asg ?_
    refine AList.nil ?_
    refine AWp.seq ?_
    refine AWp.region ?_
    refine L.Y Y.mv ?_
    refine L.Y (Y.nn (hb := by first | exact rfl | exact (if_pos ⟨rfl, rfl⟩ : (if (true = true) ∧ y.length = y.length then some false else none) = some false)) Try.underlying22) ?_
    refine AList.nil ?_
    refine W.cond (fun hb => ?_) (fun hb => ?_)
    rotate_left
    · exact absurd hb (by decide)
    refine AWp.seq ?_
    refine AWp.region ?_
    refine L.Y Y.mv ?_
    refine L.Y Y.asg ?_
    refine AList.nil ?_
    refine AWp.ret ?_
    exact ⟨.inr rfl, [(6, _)], _, ⟨rfl, rfl⟩, IsPart.at [] [0, 1, 2, 3, 5, 9] base5 (H.c (H.c (H.c (H.c (H.c (H.c .nil)))))) (E.c .nil)⟩

/-! ### impl_Table_split: function 48 -/
def impl_Table_split.f (k : Nat) (a0_0 : Int) (a0_1 : Int) (l0_2 : List Int) (a1 : Int) : Option (Option (List Int)) := (impl_Table_emptyCells.f k a0_0 a0_1 l0_2).bind fun cs => impl_Table_split_1.f k a0_0 a0_1 l0_2 cs a1 []
theorem impl_Table_split.mono : ∀ a0 a1 l0 m k, LeO (impl_Table_split.f k a0 a1 l0 m) (impl_Table_split.f (k + 1) a0 a1 l0 m) := by
  intro a0 a1 l0 m k
  unfold impl_Table_split.f
  exact LeO.bind (impl_Table_emptyCells.mono _ _ _ _) (fun cs => (impl_Table_split_1.mono_l k).1 _ _ _ _ _ _)
set_option maxRecDepth 100000 in
set_option maxHeartbeats 20000000 in
theorem impl_Table_split.aco (k : Nat) (a0_0 : Int) (a0_1 : Int) (l0_2 : List Int) (a1 : Int) (r : Option (List Int)) (h : impl_Table_split.f k a0_0 a0_1 l0_2 a1 = some r) :
    ACalls Try.prog 48 [.agg [.lit (.int .i64 a0_0), .lit (.int .i64 a0_1), .row 1 l0_2.length false (ints .i64 l0_2)], .lit (.int .i64 a1)] []
      (fun v H' => match (generalizing := false) r with | none => v = .lit (.slice none 0 0) ∧ H' = [] | some y => v = .own 0 y.length ∧ H' = [.sl 3 1 y.length true (ints .i64 y)]) := by
  refine ACalls.ofP [4] Try.func48 rfl (by exact Nat.le_of_ble_eq_true rfl) rfl (by decide) ?_
  simp only [Try.ntmps48, env0, impl_Table_split.f] at h ⊢
  obtain ⟨cs, hc1, hc2⟩ := Option.bind_eq_some_iff.1 h
  clear h
  have hR := impl_Table_split_1.ac _ _ _ _ _ _ _ _ hc2
  refine AWp.seq ?_
  refine AWp.region ?_
  refine L.M M.bx ?_
  refine L.M M.bx ?_
  refine L.Y Y.asg ?_
  refine AList.nil ?_
  refine AWp.seq ?_
  refine AWp.region ?_
  refine L.S (S.ldN Try.underlying28 impl_Table_split_1.T28) ?_
  refine L.C (C.callE (l := true) [] Try.func63 (impl_Table_emptyCells.ac _ _ _ _ _ hc1) .nil ?_)
  refine L.M (M.al impl_Table_split_1.T22) ?_
  refine L.S (S.stb impl_Table_split_1.T22) ?_
  refine AList.nil ?_
  refine AWp.seq ?_
  refine AWp.region ?_
  refine L.M (M.al impl_Table_split_1.T62) ?_
  refine AList.nil ?_
  refine AWp.seq ?_
  refine AWp.region ?_
  refine L.Y Y.fn ?_
  refine L.S (S.stb impl_Table_split_1.T62) ?_
  refine AList.nil ?_
  refine AWp.seq ?_
  refine AWp.region ?_
  refine L.S (S.ld Try.underlying62) ?_
  refine L.M (M.bs Try.underlying22 impl_Table_split_1.T3) ?_
  refine L.fz 2 ?_
  cases r with
  | none =>
    refine L.C (C.callE (l := false) [3, 1, 0, 4, 5] Try.func70 hR (H.c (H.c (H.c (H.c (H.c .nil))))) ?_)
    refine L.Y Y.asg ?_
    refine AList.nil ?_
    refine AWp.ret ?_
    exact ⟨.inr rfl, [(4, _)], _, ⟨rfl, rfl⟩, IsPart.at [] [] base0 .nil (E.c .nil)⟩
  | some y =>
    refine L.C (C.callE (l := false) [3, 1, 0, 4, 5] Try.func70 hR (H.c (H.c (H.c (H.c (H.c .nil))))) ?_)
    refine L.Y Y.asg ?_
    refine AList.nil ?_
    refine AWp.ret ?_
    exact ⟨.inr rfl, [(4, _)], _, ⟨rfl, rfl⟩, IsPart.at [] [6] base0 (H.c .nil) (E.c .nil)⟩

/-! ### impl_Table_leastParts: function 45 -/
def impl_Table_leastParts.l0 : Nat → Int → Int → List Int → Int → Option Int
  | 0, _, _, _, _ => none
  | k + 1, a0, a1, l0, x3 => if x3 ≤ 4 then ((impl_Table_split.f k a0 a1 l0 x3).bind fun r => (match r with | some _ => some x3 | none => impl_Table_leastParts.l0 k a0 a1 l0 (wrap64 (x3 + 1)))) else some 0
def impl_Table_leastParts.f (k : Nat) (a0_0 : Int) (a0_1 : Int) (l0_2 : List Int) : Option Int := impl_Table_leastParts.l0 k a0_0 a0_1 l0_2 1
theorem impl_Table_leastParts.mono_l : ∀ k a0 a1 l0 x, LeO (impl_Table_leastParts.l0 k a0 a1 l0 x) (impl_Table_leastParts.l0 (k + 1) a0 a1 l0 x)
  | 0, _, _, _, _ => fun r h => by simp [impl_Table_leastParts.l0] at h
  | k + 1, a0, a1, l0, x => by
    unfold impl_Table_leastParts.l0
    refine LeO.ite ?_ (LeO.refl _)
    refine LeO.bind (impl_Table_split.mono _ _ _ _ _) (fun r => ?_)
    cases r with
    | none => exact impl_Table_leastParts.mono_l k _ _ _ _
    | some y => exact LeO.refl _
theorem impl_Table_leastParts.mono : ∀ a0 a1 l0 k, LeO (impl_Table_leastParts.f k a0 a1 l0) (impl_Table_leastParts.f (k + 1) a0 a1 l0) := fun a0 a1 l0 k => impl_Table_leastParts.mono_l k a0 a1 l0 1
set_option maxRecDepth 100000 in
set_option maxHeartbeats 20000000 in
theorem impl_Table_leastParts.ac (k : Nat) (a0_0 : Int) (a0_1 : Int) (l0_2 : List Int) (r : Int) (h : impl_Table_leastParts.f k a0_0 a0_1 l0_2 = some r) :
    ACalls Try.prog 45 [.agg [.lit (.int .i64 a0_0), .lit (.int .i64 a0_1), .row 1 l0_2.length false (ints .i64 l0_2)]] [] (fun v H' => v = .lit (.int .i64 r) ∧ H' = []) := by
  refine ACalls.ofP [2] Try.func45 rfl (by exact Nat.le_of_ble_eq_true rfl) rfl (by decide) ?_
  simp only [Try.ntmps45, env0, impl_Table_leastParts.f] at h ⊢
  refine AWp.seq ?_
  refine AWp.region ?_
  refine L.M M.bx ?_
  refine L.Y Y.asg ?_
  refine AList.nil ?_
  refine AWp.seq ?_
  refine AWp.seq ?_
  refine AWp.region ?_
  refine L.Y Y.asg ?_
  refine AList.nil ?_
  refine AWp.block ?_
  refine AWp.loopI (fun kk e H => kk ≤ k ∧ ∃ (x3 : Int), e = [(1, .ptr 0 0), (3, .lit (.int .i64 x3))] ∧ H = [.bx 28 [.lit (.int .i64 a0_0), .lit (.int .i64 a0_1), .row 1 l0_2.length false (ints .i64 l0_2)]] ∧ impl_Table_leastParts.l0 kk a0_0 a0_1 l0_2 x3 = some r) (k := k)
    ⟨_, _, ⟨Nat.le_refl _, _, rfl, rfl, h⟩, IsPart.at [] [0] base0 (H.c .nil) (E.c (E.c .nil))⟩ ?_
  clear h
  rintro k1 e H ⟨hk1, x3, rfl, rfl, h⟩
  cases k1 with
  | zero => exact absurd h (by simp [impl_Table_leastParts.l0])
  | succ k1 =>
  simp only [impl_Table_leastParts.l0] at h
  refine AWp.seq ?_
  refine AWp.seq ?_
  refine AWp.region ?_
  refine L.Y Y.mv ?_
  refine L.Y Y.bin ?_
  refine AList.nil ?_
  refine W.cond (fun hb => ?_) (fun hb => ?_)
  rotate_left
  · simp only [decide_eq_false_iff_not] at hb
    rw [if_neg hb] at h
    obtain rfl := Option.some.inj h
    refine AWp.exit ?_
    refine AWp.seq ?_
    refine AWp.region ?_
    refine L.Y Y.asg ?_
    refine AList.nil ?_
    refine AWp.ret ?_
    exact ⟨.inr rfl, [(2, _)], _, ⟨rfl, rfl⟩, IsPart.at [] [] base0 .nil (E.c .nil)⟩
  simp only [decide_eq_true_eq] at hb
  rw [if_pos hb] at h
  refine AWp.skip ?_
  refine AWp.seq ?_
  refine AWp.block ?_
  obtain ⟨ro, hc1, h⟩ := Option.bind_eq_some_iff.1 h
  have hR := impl_Table_split.aco _ _ _ _ _ _ hc1
  refine AWp.seq ?_
  refine AWp.region ?_
  refine L.S (S.ldN Try.underlying28 impl_Table_split_1.T28) ?_
  refine L.Y Y.mv ?_
  cases ro with
  | none =>
    refine L.C (C.callE (l := true) [] Try.func48 hR .nil ?_)
    refine L.Y (Y.nn (hb := by first | exact rfl | exact (if_pos ⟨rfl, rfl⟩ : (if (true = true) ∧ y.length = y.length then some false else none) = some false)) Try.underlying22) ?_
    refine AList.nil ?_
    refine W.cond (fun hb => ?_) (fun hb => ?_)
    · exact absurd hb (by decide)
    refine AWp.skip ?_
    refine AWp.region ?_
    refine L.Y Y.mv ?_
    refine L.Y Y.bin ?_
    refine L.Y Y.asg ?_
    refine AList.nil ?_
    exact ⟨k1, by omega, _, _, ⟨by omega, _, rfl, rfl, h⟩, IsPart.at [] [0] base0 (H.c .nil) (E.c (E.c .nil))⟩
  | some y =>
    obtain rfl := Option.some.inj h
    refine L.C (C.callE (l := true) [] Try.func48 hR .nil ?_)
    refine L.Y (Y.nn (hb := by first | exact rfl | exact (if_pos ⟨rfl, rfl⟩ : (if (true = true) ∧ y.length = y.length then some false else none) = some false)) Try.underlying22) ?_
    refine AList.nil ?_
    refine W.cond (fun hb => ?_) (fun hb => ?_)
    rotate_left
    · exact absurd hb (by decide)
    refine AWp.seq ?_
    refine AWp.region ?_
    refine L.Y Y.mv ?_
    refine L.Y Y.asg ?_
    refine AList.nil ?_
    refine AWp.ret ?_
    exact ⟨.inr rfl, [(2, _)], _, ⟨rfl, rfl⟩, IsPart.at [] [] base0 .nil (E.c .nil)⟩

/-! ### impl_LeastParts: function 11 -/
def impl_LeastParts.f (k : Nat) (a0_0 : Int) (a0_1 : Int) (l0_2 : List Int) : Option (Int × Bool) := (impl_isSplit.f k a0_0 a0_1 l0_2).bind fun t227 => (if t227 = true then ((impl_Table_leastParts.f k a0_0 a0_1 l0_2).bind fun t228 => (some (t228, decide (t228 > 0)))) else (some (0, false)))
theorem impl_LeastParts.mono : ∀ a0 a1 a2 k, LeO (impl_LeastParts.f k a0 a1 a2) (impl_LeastParts.f (k + 1) a0 a1 a2) := by
  intro a0 a1 a2 k
  unfold impl_LeastParts.f
  repeat' first
      | (with_reducible exact impl_Table_leastParts.mono _ _ _ _)
      | (with_reducible exact impl_isSplit.mono _ _ _ _)
      | (with_reducible exact LeO.refl _)
      | (with_reducible exact LeO.none _)
      | (with_reducible refine LeO.ite ?_ ?_)
      | (with_reducible refine LeO.bind ?_ (fun _ => ?_))
      | exact impl_Table_leastParts.mono _ _ _ _
      | exact impl_isSplit.mono _ _ _ _
      | exact LeO.none _
      | refine LeO.ite ?_ ?_
      | refine LeO.bind ?_ (fun _ => ?_)
set_option maxRecDepth 100000 in
set_option maxHeartbeats 20000000 in
theorem impl_LeastParts.ac (k : Nat) (a0_0 : Int) (a0_1 : Int) (l0_2 : List Int) (r1 : Int) (r2 : Bool) (h : impl_LeastParts.f k a0_0 a0_1 l0_2 = some (r1, r2)) :
    ACalls Try.prog 11 [.agg [.lit (.int .i64 a0_0), .lit (.int .i64 a0_1), .row 1 l0_2.length false (ints .i64 l0_2)]] [] (fun v H' => v = .tup [.lit (.int .i64 r1), .lit (.bool r2)] ∧ H' = []) := by
  refine ACalls.ofP [2, 3] Try.func11 rfl (by exact Nat.le_of_ble_eq_true rfl) rfl (by decide) ?_
  simp only [Try.ntmps11, env0, impl_LeastParts.f] at h ⊢
  repeat (first | (rw [Option.ite_none_right_eq_some] at h; obtain ⟨_, h⟩ := h) | (rw [Option.ite_none_left_eq_some] at h; obtain ⟨_, h⟩ := h) | (simp only [Option.bind_some] at h))
  refine AWp.seq ?_
  refine AWp.region ?_
  refine L.M M.bx ?_
  refine L.Y Y.asg ?_
  refine L.Y Y.asg ?_
  refine AList.nil ?_
  refine AWp.seq ?_
  refine AWp.seq ?_
  refine AWp.region ?_
  refine L.S (S.ldN Try.underlying28 Y28) ?_
  repeat (first | (rw [Option.ite_none_right_eq_some] at h; obtain ⟨_, h⟩ := h) | (rw [Option.ite_none_left_eq_some] at h; obtain ⟨_, h⟩ := h) | (simp only [Option.bind_some] at h))
  obtain ⟨t227, hc1, h⟩ := Option.bind_eq_some_iff.1 h
  repeat (first | (rw [Option.ite_none_right_eq_some] at h; obtain ⟨_, h⟩ := h) | (rw [Option.ite_none_left_eq_some] at h; obtain ⟨_, h⟩ := h) | (simp only [Option.bind_some] at h))
  refine L.C (C.callE (l := true) [] Try.func44 (impl_isSplit.ac _ _ _ _ _ hc1) .nil ?_)
  refine L.Y Y.nt ?_
  refine AList.nil ?_
  refine W.cond (fun hb => ?_) (fun hb => ?_)
  · have hb2 := hb
    try simp only [decide_eq_true_eq, decide_eq_false_iff_not, Bool.not_eq_true', Bool.not_eq_false', Bool.not_eq_true, Bool.not_eq_false, beq_iff_eq, bne_iff_ne, beq_eq_false_iff_ne, bne_eq_false_iff_eq, ne_eq, Decidable.not_not] at hb
    first | rw [if_pos hb2] at h | rw [if_neg (Bool.eq_false_iff.1 hb2)] at h | rw [if_pos hb] at h | rw [if_neg hb] at h | (simp only [hb, Bool.not_false, Bool.not_true, Bool.false_eq_true, if_true, if_false, reduceIte] at h) | skip
    repeat (first | (rw [Option.ite_none_right_eq_some] at h; obtain ⟨_, h⟩ := h) | (rw [Option.ite_none_left_eq_some] at h; obtain ⟨_, h⟩ := h) | (simp only [Option.bind_some] at h))
    refine AWp.seq ?_
    refine AWp.region ?_
    refine L.Y Y.asg ?_
    refine L.Y Y.asg ?_
    refine AList.nil ?_
    repeat (first | (rw [Option.ite_none_right_eq_some] at h; obtain ⟨_, h⟩ := h) | (rw [Option.ite_none_left_eq_some] at h; obtain ⟨_, h⟩ := h) | (simp only [Option.bind_some] at h))
    simp only [Option.some.injEq, Prod.mk.injEq] at h
    obtain ⟨rfl, rfl⟩ := h
    refine AWp.ret ?_
    exact ⟨.inr rfl, [(2, _), (3, _)], _, ⟨rfl, rfl⟩, IsPart.at [] [] base0 .nil (E.c (E.c .nil))⟩
  · have hb2 := hb
    try simp only [decide_eq_true_eq, decide_eq_false_iff_not, Bool.not_eq_true', Bool.not_eq_false', Bool.not_eq_true, Bool.not_eq_false, beq_iff_eq, bne_iff_ne, beq_eq_false_iff_ne, bne_eq_false_iff_eq, ne_eq, Decidable.not_not] at hb
    first | rw [if_pos hb2] at h | rw [if_neg (Bool.eq_false_iff.1 hb2)] at h | rw [if_pos hb] at h | rw [if_neg hb] at h | (simp only [hb, Bool.not_false, Bool.not_true, Bool.false_eq_true, if_true, if_false, reduceIte] at h) | skip
    repeat (first | (rw [Option.ite_none_right_eq_some] at h; obtain ⟨_, h⟩ := h) | (rw [Option.ite_none_left_eq_some] at h; obtain ⟨_, h⟩ := h) | (simp only [Option.bind_some] at h))
    refine AWp.skip ?_
    refine AWp.seq ?_
    refine AWp.region ?_
    refine L.S (S.ldN Try.underlying28 Y28) ?_
    repeat (first | (rw [Option.ite_none_right_eq_some] at h; obtain ⟨_, h⟩ := h) | (rw [Option.ite_none_left_eq_some] at h; obtain ⟨_, h⟩ := h) | (simp only [Option.bind_some] at h))
    obtain ⟨t228, hc3, h⟩ := Option.bind_eq_some_iff.1 h
    repeat (first | (rw [Option.ite_none_right_eq_some] at h; obtain ⟨_, h⟩ := h) | (rw [Option.ite_none_left_eq_some] at h; obtain ⟨_, h⟩ := h) | (simp only [Option.bind_some] at h))
    refine L.C (C.callE (l := true) [] Try.func45 (impl_Table_leastParts.ac _ _ _ _ _ hc3) .nil ?_)
    refine L.Y Y.asg ?_
    refine AList.nil ?_
    refine AWp.seq ?_
    refine W.kp [0, 1, 2, 3, 4, 7] ?_
    refine AWp.region ?_
    refine L.Y Y.mv ?_
    refine L.Y Y.mv ?_
    refine L.Y Y.bin ?_
    refine L.Y Y.asg ?_
    refine L.Y Y.asg ?_
    refine AList.nil ?_
    repeat (first | (rw [Option.ite_none_right_eq_some] at h; obtain ⟨_, h⟩ := h) | (rw [Option.ite_none_left_eq_some] at h; obtain ⟨_, h⟩ := h) | (simp only [Option.bind_some] at h))
    simp only [Option.some.injEq, Prod.mk.injEq] at h
    obtain ⟨rfl, rfl⟩ := h
    refine AWp.ret ?_
    exact ⟨.inr rfl, [(2, _), (3, _)], _, ⟨rfl, rfl⟩, IsPart.at [] [] base0 .nil (E.c (E.c .nil))⟩

/-! ### laws_eqIntS: function 15 -/
def laws_eqIntS.l0 : Nat → List Int → List Int → Int → Option (Bool)
  | 0, _, _, _ => none
  | k + 1, x0, x1, x5 => if x5 < (x0.length : Int) then (if 0 ≤ x5 then (if x5 < (x1.length : Int) then (if (rd x0 x5) = (rd x1 x5) then (laws_eqIntS.l0 k x0 x1 (wrap64 (x5 + 1))) else (some false)) else (none)) else (none)) else (some true)
def laws_eqIntS.f (k : Nat) (l0 : List Int) (l1 : List Int) : Option (Bool) := if (l0.length : Int) = (l1.length : Int) then (laws_eqIntS.l0 k l0 l1 0) else (some false)
theorem laws_eqIntS.mono_l : ∀ k, (∀ y0 y1 y2, LeO (laws_eqIntS.l0 k y0 y1 y2) (laws_eqIntS.l0 (k + 1) y0 y1 y2))
  | 0 => fun _ _ _ r h => by simp [laws_eqIntS.l0] at h
  | k + 1 => by
    have ih0 := laws_eqIntS.mono_l k
    · intro y0 y1 y2
      unfold laws_eqIntS.l0
      repeat' first
      | (with_reducible exact ih0 _ _ _)
      | (with_reducible exact LeO.refl _)
      | (with_reducible exact LeO.none _)
      | (with_reducible refine LeO.ite ?_ ?_)
      | (with_reducible refine LeO.bind ?_ (fun _ => ?_))
      | exact ih0 _ _ _
      | exact LeO.none _
      | refine LeO.ite ?_ ?_
      | refine LeO.bind ?_ (fun _ => ?_)
theorem laws_eqIntS.mono : ∀ a0 a1 k, LeO (laws_eqIntS.f k a0 a1) (laws_eqIntS.f (k + 1) a0 a1) := by
  intro a0 a1 k
  have ih0 := laws_eqIntS.mono_l k
  unfold laws_eqIntS.f
  repeat' first
      | (with_reducible exact ih0 _ _ _)
      | (with_reducible exact LeO.refl _)
      | (with_reducible exact LeO.none _)
      | (with_reducible refine LeO.ite ?_ ?_)
      | (with_reducible refine LeO.bind ?_ (fun _ => ?_))
      | exact ih0 _ _ _
      | exact LeO.none _
      | refine LeO.ite ?_ ?_
      | refine LeO.bind ?_ (fun _ => ?_)
set_option maxRecDepth 100000 in
set_option maxHeartbeats 20000000 in
theorem laws_eqIntS.ac (k : Nat) (l0 : List Int) (l1 : List Int) (r : Bool) (h : laws_eqIntS.f k l0 l1 = some r) :
    ACalls Try.prog 15 [.row 1 l0.length false (ints .i64 l0), .row 1 l1.length false (ints .i64 l1)] [] (fun v H' => v = .lit (.bool r) ∧ H' = []) := by
  refine ACalls.ofP [4] Try.func15 rfl (by exact Nat.le_of_ble_eq_true rfl) rfl (by decide) ?_
  simp only [Try.ntmps15, env0, laws_eqIntS.f] at h ⊢
  repeat (first | (rw [Option.ite_none_right_eq_some] at h; obtain ⟨_, h⟩ := h) | (rw [Option.ite_none_left_eq_some] at h; obtain ⟨_, h⟩ := h) | (simp only [Option.bind_some] at h))
  refine AWp.seq ?_
  refine AWp.region ?_
  refine L.Y Y.asg ?_
  refine AList.nil ?_
  refine AWp.seq ?_
  refine AWp.seq ?_
  refine AWp.region ?_
  refine L.Y Y.mv ?_
  refine L.Y (Y.ln Try.underlying22) ?_
  refine L.Y Y.mv ?_
  refine L.Y (Y.ln Try.underlying22) ?_
  refine L.Y Y.bin ?_
  refine AList.nil ?_
  refine W.cond (fun hb => ?_) (fun hb => ?_)
  · have hb1 := hb
    try simp only [decide_eq_true_eq, decide_eq_false_iff_not, Bool.not_eq_true', Bool.not_eq_false', Bool.not_eq_true, Bool.not_eq_false, beq_iff_eq, bne_iff_ne, beq_eq_false_iff_ne, bne_eq_false_iff_eq, ne_eq, Decidable.not_not] at hb
    first | rw [if_pos hb1] at h | rw [if_neg (Bool.eq_false_iff.1 hb1)] at h | rw [if_pos hb] at h | rw [if_neg hb] at h | (simp only [hb, Bool.not_false, Bool.not_true, Bool.false_eq_true, if_true, if_false, reduceIte] at h) | skip
    repeat (first | (rw [Option.ite_none_right_eq_some] at h; obtain ⟨_, h⟩ := h) | (rw [Option.ite_none_left_eq_some] at h; obtain ⟨_, h⟩ := h) | (simp only [Option.bind_some] at h))
    refine AWp.seq ?_
    refine W.kp [0, 1, 4, 10] ?_
    refine AWp.region ?_
    refine L.Y Y.asg ?_
    refine AList.nil ?_
    repeat (first | (rw [Option.ite_none_right_eq_some] at h; obtain ⟨_, h⟩ := h) | (rw [Option.ite_none_left_eq_some] at h; obtain ⟨_, h⟩ := h) | (simp only [Option.bind_some] at h))
    obtain rfl := Option.some.inj h
    refine AWp.ret ?_
    exact ⟨.inr rfl, [(4, _)], _, ⟨rfl, rfl⟩, IsPart.at [] [] base0 .nil (E.c .nil)⟩
  · have hb1 := hb
    try simp only [decide_eq_true_eq, decide_eq_false_iff_not, Bool.not_eq_true', Bool.not_eq_false', Bool.not_eq_true, Bool.not_eq_false, beq_iff_eq, bne_iff_ne, beq_eq_false_iff_ne, bne_eq_false_iff_eq, ne_eq, Decidable.not_not] at hb
    first | rw [if_pos hb1] at h | rw [if_neg (Bool.eq_false_iff.1 hb1)] at h | rw [if_pos hb] at h | rw [if_neg hb] at h | (simp only [hb, Bool.not_false, Bool.not_true, Bool.false_eq_true, if_true, if_false, reduceIte] at h) | skip
    repeat (first | (rw [Option.ite_none_right_eq_some] at h; obtain ⟨_, h⟩ := h) | (rw [Option.ite_none_left_eq_some] at h; obtain ⟨_, h⟩ := h) | (simp only [Option.bind_some] at h))
    refine AWp.skip ?_
    refine AWp.seq ?_
    refine AWp.seq ?_
    refine W.kp [0, 1, 4, 10] ?_
    refine AWp.region ?_
    refine L.Y Y.asg ?_
    refine AList.nil ?_
    refine AWp.block ?_
    repeat (first | (rw [Option.ite_none_right_eq_some] at h; obtain ⟨_, h⟩ := h) | (rw [Option.ite_none_left_eq_some] at h; obtain ⟨_, h⟩ := h) | (simp only [Option.bind_some] at h))
    refine AWp.loopI (fun kk e H => kk ≤ k ∧ ∃ (x5 : Int), e = [(0, .row 1 l0.length false (ints .i64 l0)), (1, .row 1 l1.length false (ints .i64 l1)), (5, .lit (.int .i64 x5))] ∧ H = [] ∧ laws_eqIntS.l0 kk l0 l1 x5 = some r) (k := k)
      ⟨_, _, ⟨Nat.le_refl _, _, rfl, rfl, h⟩, IsPart.at [] [] base0 .nil (E.c (E.c (E.c .nil)))⟩ ?_
    clear h
    rintro k2 e H ⟨hk3, x5, rfl, rfl, h⟩
    cases k2 with
    | zero => exact absurd h (by simp [laws_eqIntS.l0])
    | succ k2 =>
    simp only [laws_eqIntS.l0] at h
    repeat (first | (rw [Option.ite_none_right_eq_some] at h; obtain ⟨_, h⟩ := h) | (rw [Option.ite_none_left_eq_some] at h; obtain ⟨_, h⟩ := h) | (simp only [Option.bind_some] at h))
    refine AWp.seq ?_
    refine AWp.seq ?_
    refine AWp.region ?_
    refine L.Y Y.mv ?_
    refine L.Y Y.mv ?_
    refine L.Y (Y.ln Try.underlying22) ?_
    refine L.Y Y.bin ?_
    refine AList.nil ?_
    refine W.cond (fun hb => ?_) (fun hb => ?_)
    · have hb4 := hb
      try simp only [decide_eq_true_eq, decide_eq_false_iff_not, Bool.not_eq_true', Bool.not_eq_false', Bool.not_eq_true, Bool.not_eq_false, beq_iff_eq, bne_iff_ne, beq_eq_false_iff_ne, bne_eq_false_iff_eq, ne_eq, Decidable.not_not] at hb
      first | rw [if_pos hb4] at h | rw [if_neg (Bool.eq_false_iff.1 hb4)] at h | rw [if_pos hb] at h | rw [if_neg hb] at h | (simp only [hb, Bool.not_false, Bool.not_true, Bool.false_eq_true, if_true, if_false, reduceIte] at h) | skip
      repeat (first | (rw [Option.ite_none_right_eq_some] at h; obtain ⟨_, h⟩ := h) | (rw [Option.ite_none_left_eq_some] at h; obtain ⟨_, h⟩ := h) | (simp only [Option.bind_some] at h))
      refine AWp.skip ?_
      refine AWp.seq ?_
      refine AWp.block ?_
      refine AWp.seq ?_
      refine Dt.reg [] [] (.y 0 (.y 1 (.y 2 (.t 3 (.y 4 (.y 5 (.y 6 (.t 7 (.y 8 .done))))))))) HM ?_
      refine Dt.Y rfl wantN Y.mv ?_
      refine Dt.Y rfl wantN Y.mv ?_
      refine Dt.Y rfl wantN (Y.ixr Try.underlying22 Y3) ?_
      refine Dt.T rfl wantN (D.ld Try.underlying3) ?_
      refine Dt.Y rfl wantN Y.mv ?_
      refine Dt.Y rfl wantN Y.mv ?_
      refine Dt.Y rfl wantN (Y.ixr Try.underlying22 Y3) ?_
      refine Dt.T rfl wantN (D.ld Try.underlying3) ?_
      refine Dt.Y rfl wantN Y.bin ?_
      refine Dt.nil ?_
      refine W.cond (fun hb => ?_) (fun hb => ?_)
      · have hb5 := hb
        try simp only [decide_eq_true_eq, decide_eq_false_iff_not, Bool.not_eq_true', Bool.not_eq_false', Bool.not_eq_true, Bool.not_eq_false, beq_iff_eq, bne_iff_ne, beq_eq_false_iff_ne, bne_eq_false_iff_eq, ne_eq, Decidable.not_not] at hb
        first | rw [if_pos hb5] at h | rw [if_neg (Bool.eq_false_iff.1 hb5)] at h | rw [if_pos hb] at h | rw [if_neg hb] at h | (simp only [hb, Bool.not_false, Bool.not_true, Bool.false_eq_true, if_true, if_false, reduceIte] at h) | skip
        repeat (first | (rw [Option.ite_none_right_eq_some] at h; obtain ⟨_, h⟩ := h) | (rw [Option.ite_none_left_eq_some] at h; obtain ⟨_, h⟩ := h) | (simp only [Option.bind_some] at h))
        refine AWp.seq ?_
        refine W.kp [0, 1, 5, 14, 25] ?_
        refine AWp.region ?_
        refine L.Y Y.asg ?_
        refine AList.nil ?_
        repeat (first | (rw [Option.ite_none_right_eq_some] at h; obtain ⟨_, h⟩ := h) | (rw [Option.ite_none_left_eq_some] at h; obtain ⟨_, h⟩ := h) | (simp only [Option.bind_some] at h))
        obtain rfl := Option.some.inj h
        refine AWp.ret ?_
        exact ⟨.inr rfl, [(4, _)], _, ⟨rfl, rfl⟩, IsPart.at [] [] base0 .nil (E.c .nil)⟩
      · have hb5 := hb
        try simp only [decide_eq_true_eq, decide_eq_false_iff_not, Bool.not_eq_true', Bool.not_eq_false', Bool.not_eq_true, Bool.not_eq_false, beq_iff_eq, bne_iff_ne, beq_eq_false_iff_ne, bne_eq_false_iff_eq, ne_eq, Decidable.not_not] at hb
        first | rw [if_pos hb5] at h | rw [if_neg (Bool.eq_false_iff.1 hb5)] at h | rw [if_pos hb] at h | rw [if_neg hb] at h | (simp only [hb, Bool.not_false, Bool.not_true, Bool.false_eq_true, if_true, if_false, reduceIte] at h) | skip
        repeat (first | (rw [Option.ite_none_right_eq_some] at h; obtain ⟨_, h⟩ := h) | (rw [Option.ite_none_left_eq_some] at h; obtain ⟨_, h⟩ := h) | (simp only [Option.bind_some] at h))
        refine AWp.skip ?_
        refine W.kp [0, 1, 5, 14, 25] ?_
        refine AWp.region ?_
        refine L.Y Y.mv ?_
        refine L.Y Y.bin ?_
        refine L.Y Y.asg ?_
        refine AList.nil ?_
        repeat (first | (rw [Option.ite_none_right_eq_some] at h; obtain ⟨_, h⟩ := h) | (rw [Option.ite_none_left_eq_some] at h; obtain ⟨_, h⟩ := h) | (simp only [Option.bind_some] at h))
        exact ⟨k2, by omega, _, _, ⟨by omega, _, rfl, rfl, h⟩, IsPart.at [] [] base0 .nil (E.c (E.c (E.c .nil)))⟩
    · have hb4 := hb
      try simp only [decide_eq_true_eq, decide_eq_false_iff_not, Bool.not_eq_true', Bool.not_eq_false', Bool.not_eq_true, Bool.not_eq_false, beq_iff_eq, bne_iff_ne, beq_eq_false_iff_ne, bne_eq_false_iff_eq, ne_eq, Decidable.not_not] at hb
      first | rw [if_pos hb4] at h | rw [if_neg (Bool.eq_false_iff.1 hb4)] at h | rw [if_pos hb] at h | rw [if_neg hb] at h | (simp only [hb, Bool.not_false, Bool.not_true, Bool.false_eq_true, if_true, if_false, reduceIte] at h) | skip
      repeat (first | (rw [Option.ite_none_right_eq_some] at h; obtain ⟨_, h⟩ := h) | (rw [Option.ite_none_left_eq_some] at h; obtain ⟨_, h⟩ := h) | (simp only [Option.bind_some] at h))
      refine AWp.exit ?_
      refine AWp.seq ?_
      refine AWp.region ?_
      refine L.Y Y.asg ?_
      refine AList.nil ?_
      repeat (first | (rw [Option.ite_none_right_eq_some] at h; obtain ⟨_, h⟩ := h) | (rw [Option.ite_none_left_eq_some] at h; obtain ⟨_, h⟩ := h) | (simp only [Option.bind_some] at h))
      obtain rfl := Option.some.inj h
      refine AWp.ret ?_
      exact ⟨.inr rfl, [(4, _)], _, ⟨rfl, rfl⟩, IsPart.at [] [] base0 .nil (E.c .nil)⟩

/-! ### laws_eqTable: function 12 -/
def laws_eqTable.f (k : Nat) (a0_0 : Int) (a0_1 : Int) (l0_2 : List Int) (a1_0 : Int) (a1_1 : Int) (l1_2 : List Int) : Option (Bool) := if a0_0 = a1_0 then (if a0_1 = a1_1 then ((laws_eqIntS.f k l0_2 l1_2).bind fun t233 => (if t233 = true then (some true) else (some false))) else (some false)) else (some false)
theorem laws_eqTable.mono : ∀ a0 a1 a2 a3 a4 a5 k, LeO (laws_eqTable.f k a0 a1 a2 a3 a4 a5) (laws_eqTable.f (k + 1) a0 a1 a2 a3 a4 a5) := by
  intro a0 a1 a2 a3 a4 a5 k
  unfold laws_eqTable.f
  repeat' first
      | (with_reducible exact laws_eqIntS.mono _ _ _)
      | (with_reducible exact LeO.refl _)
      | (with_reducible exact LeO.none _)
      | (with_reducible refine LeO.ite ?_ ?_)
      | (with_reducible refine LeO.bind ?_ (fun _ => ?_))
      | exact laws_eqIntS.mono _ _ _
      | exact LeO.none _
      | refine LeO.ite ?_ ?_
      | refine LeO.bind ?_ (fun _ => ?_)
set_option maxRecDepth 100000 in
set_option maxHeartbeats 20000000 in
theorem laws_eqTable.ac (k : Nat) (a0_0 : Int) (a0_1 : Int) (l0_2 : List Int) (a1_0 : Int) (a1_1 : Int) (l1_2 : List Int) (r : Bool) (h : laws_eqTable.f k a0_0 a0_1 l0_2 a1_0 a1_1 l1_2 = some r) :
    ACalls Try.prog 12 [.agg [.lit (.int .i64 a0_0), .lit (.int .i64 a0_1), .row 1 l0_2.length false (ints .i64 l0_2)], .agg [.lit (.int .i64 a1_0), .lit (.int .i64 a1_1), .row 1 l1_2.length false (ints .i64 l1_2)]] [] (fun v H' => v = .lit (.bool r) ∧ H' = []) := by
  refine ACalls.ofP [4] Try.func12 rfl (by exact Nat.le_of_ble_eq_true rfl) rfl (by decide) ?_
  simp only [Try.ntmps12, env0, laws_eqTable.f] at h ⊢
  repeat (first | (rw [Option.ite_none_right_eq_some] at h; obtain ⟨_, h⟩ := h) | (rw [Option.ite_none_left_eq_some] at h; obtain ⟨_, h⟩ := h) | (simp only [Option.bind_some] at h))
  refine AWp.seq ?_
  refine AWp.region ?_
  refine L.M M.bx ?_
  refine L.M M.bx ?_
  refine L.Y Y.asg ?_
  refine AList.nil ?_
  refine AWp.seq ?_
  refine AWp.seq ?_
  refine AWp.region ?_
  refine L.Y (Y.fa (off := 0) Try.underlying28 Y3) ?_
  refine L.S (S.ld Try.underlying3) ?_
  refine L.Y (Y.fa (off := 0) Try.underlying28 Y3) ?_
  refine L.S (S.ld Try.underlying3) ?_
  refine L.Y Y.bin ?_
  refine AList.nil ?_
  refine W.cond (fun hb => ?_) (fun hb => ?_)
  · have hb1 := hb
    try simp only [decide_eq_true_eq, decide_eq_false_iff_not, Bool.not_eq_true', Bool.not_eq_false', Bool.not_eq_true, Bool.not_eq_false, beq_iff_eq, bne_iff_ne, beq_eq_false_iff_ne, bne_eq_false_iff_eq, ne_eq, Decidable.not_not] at hb
    first | rw [if_pos hb1] at h | rw [if_neg (Bool.eq_false_iff.1 hb1)] at h | rw [if_pos hb] at h | rw [if_neg hb] at h | (simp only [hb, Bool.not_false, Bool.not_true, Bool.false_eq_true, if_true, if_false, reduceIte] at h) | skip
    repeat (first | (rw [Option.ite_none_right_eq_some] at h; obtain ⟨_, h⟩ := h) | (rw [Option.ite_none_left_eq_some] at h; obtain ⟨_, h⟩ := h) | (simp only [Option.bind_some] at h))
    refine AWp.seq ?_
    refine W.kp [0, 1, 2, 3, 4, 9] ?_
    refine AWp.region ?_
    refine L.Y Y.asg ?_
    refine AList.nil ?_
    repeat (first | (rw [Option.ite_none_right_eq_some] at h; obtain ⟨_, h⟩ := h) | (rw [Option.ite_none_left_eq_some] at h; obtain ⟨_, h⟩ := h) | (simp only [Option.bind_some] at h))
    obtain rfl := Option.some.inj h
    refine AWp.ret ?_
    exact ⟨.inr rfl, [(4, _)], _, ⟨rfl, rfl⟩, IsPart.at [] [] base0 .nil (E.c .nil)⟩
  · have hb1 := hb
    try simp only [decide_eq_true_eq, decide_eq_false_iff_not, Bool.not_eq_true', Bool.not_eq_false', Bool.not_eq_true, Bool.not_eq_false, beq_iff_eq, bne_iff_ne, beq_eq_false_iff_ne, bne_eq_false_iff_eq, ne_eq, Decidable.not_not] at hb
    first | rw [if_pos hb1] at h | rw [if_neg (Bool.eq_false_iff.1 hb1)] at h | rw [if_pos hb] at h | rw [if_neg hb] at h | (simp only [hb, Bool.not_false, Bool.not_true, Bool.false_eq_true, if_true, if_false, reduceIte] at h) | skip
    repeat (first | (rw [Option.ite_none_right_eq_some] at h; obtain ⟨_, h⟩ := h) | (rw [Option.ite_none_left_eq_some] at h; obtain ⟨_, h⟩ := h) | (simp only [Option.bind_some] at h))
    refine AWp.skip ?_
    refine AWp.seq ?_
    refine AWp.seq ?_
    refine W.kp [0, 1, 2, 3, 4, 9] ?_
    refine AWp.region ?_
    refine L.Y (Y.fa (off := 1) Try.underlying28 Y3) ?_
    refine L.S (S.ld Try.underlying3) ?_
    refine L.Y (Y.fa (off := 1) Try.underlying28 Y3) ?_
    refine L.S (S.ld Try.underlying3) ?_
    refine L.Y Y.bin ?_
    refine AList.nil ?_
    refine W.cond (fun hb => ?_) (fun hb => ?_)
    · have hb2 := hb
      try simp only [decide_eq_true_eq, decide_eq_false_iff_not, Bool.not_eq_true', Bool.not_eq_false', Bool.not_eq_true, Bool.not_eq_false, beq_iff_eq, bne_iff_ne, beq_eq_false_iff_ne, bne_eq_false_iff_eq, ne_eq, Decidable.not_not] at hb
      first | rw [if_pos hb2] at h | rw [if_neg (Bool.eq_false_iff.1 hb2)] at h | rw [if_pos hb] at h | rw [if_neg hb] at h | (simp only [hb, Bool.not_false, Bool.not_true, Bool.false_eq_true, if_true, if_false, reduceIte] at h) | skip
      repeat (first | (rw [Option.ite_none_right_eq_some] at h; obtain ⟨_, h⟩ := h) | (rw [Option.ite_none_left_eq_some] at h; obtain ⟨_, h⟩ := h) | (simp only [Option.bind_some] at h))
      refine AWp.seq ?_
      refine W.kp [0, 1, 2, 3, 4, 9, 14] ?_
      refine AWp.region ?_
      refine L.Y Y.asg ?_
      refine AList.nil ?_
      repeat (first | (rw [Option.ite_none_right_eq_some] at h; obtain ⟨_, h⟩ := h) | (rw [Option.ite_none_left_eq_some] at h; obtain ⟨_, h⟩ := h) | (simp only [Option.bind_some] at h))
      obtain rfl := Option.some.inj h
      refine AWp.ret ?_
      exact ⟨.inr rfl, [(4, _)], _, ⟨rfl, rfl⟩, IsPart.at [] [] base0 .nil (E.c .nil)⟩
    · have hb2 := hb
      try simp only [decide_eq_true_eq, decide_eq_false_iff_not, Bool.not_eq_true', Bool.not_eq_false', Bool.not_eq_true, Bool.not_eq_false, beq_iff_eq, bne_iff_ne, beq_eq_false_iff_ne, bne_eq_false_iff_eq, ne_eq, Decidable.not_not] at hb
      first | rw [if_pos hb2] at h | rw [if_neg (Bool.eq_false_iff.1 hb2)] at h | rw [if_pos hb] at h | rw [if_neg hb] at h | (simp only [hb, Bool.not_false, Bool.not_true, Bool.false_eq_true, if_true, if_false, reduceIte] at h) | skip
      repeat (first | (rw [Option.ite_none_right_eq_some] at h; obtain ⟨_, h⟩ := h) | (rw [Option.ite_none_left_eq_some] at h; obtain ⟨_, h⟩ := h) | (simp only [Option.bind_some] at h))
      refine AWp.skip ?_
      refine AWp.seq ?_
      refine AWp.seq ?_
      refine W.kp [0, 1, 2, 3, 4, 9, 14] ?_
      refine AWp.region ?_
      refine L.Y (Y.fa (off := 2) Try.underlying28 Y22) ?_
      refine L.S (S.ld Try.underlying22) ?_
      refine L.Y (Y.fa (off := 2) Try.underlying28 Y22) ?_
      refine L.S (S.ld Try.underlying22) ?_
      repeat (first | (rw [Option.ite_none_right_eq_some] at h; obtain ⟨_, h⟩ := h) | (rw [Option.ite_none_left_eq_some] at h; obtain ⟨_, h⟩ := h) | (simp only [Option.bind_some] at h))
      obtain ⟨t233, hc3, h⟩ := Option.bind_eq_some_iff.1 h
      repeat (first | (rw [Option.ite_none_right_eq_some] at h; obtain ⟨_, h⟩ := h) | (rw [Option.ite_none_left_eq_some] at h; obtain ⟨_, h⟩ := h) | (simp only [Option.bind_some] at h))
      refine L.C (C.callE (l := true) [] Try.func15 (laws_eqIntS.ac _ _ _ _ hc3) .nil ?_)
      refine L.Y Y.nt ?_
      refine AList.nil ?_
      refine W.cond (fun hb => ?_) (fun hb => ?_)
      · have hb4 := hb
        try simp only [decide_eq_true_eq, decide_eq_false_iff_not, Bool.not_eq_true', Bool.not_eq_false', Bool.not_eq_true, Bool.not_eq_false, beq_iff_eq, bne_iff_ne, beq_eq_false_iff_ne, bne_eq_false_iff_eq, ne_eq, Decidable.not_not] at hb
        first | rw [if_pos hb4] at h | rw [if_neg (Bool.eq_false_iff.1 hb4)] at h | rw [if_pos hb] at h | rw [if_neg hb] at h | (simp only [hb, Bool.not_false, Bool.not_true, Bool.false_eq_true, if_true, if_false, reduceIte] at h) | skip
        repeat (first | (rw [Option.ite_none_right_eq_some] at h; obtain ⟨_, h⟩ := h) | (rw [Option.ite_none_left_eq_some] at h; obtain ⟨_, h⟩ := h) | (simp only [Option.bind_some] at h))
        refine AWp.seq ?_
        refine W.kp [0, 1, 2, 3, 4, 9, 14, 20] ?_
        refine AWp.region ?_
        refine L.Y Y.asg ?_
        refine AList.nil ?_
        repeat (first | (rw [Option.ite_none_right_eq_some] at h; obtain ⟨_, h⟩ := h) | (rw [Option.ite_none_left_eq_some] at h; obtain ⟨_, h⟩ := h) | (simp only [Option.bind_some] at h))
        obtain rfl := Option.some.inj h
        refine AWp.ret ?_
        exact ⟨.inr rfl, [(4, _)], _, ⟨rfl, rfl⟩, IsPart.at [] [] base0 .nil (E.c .nil)⟩
      · have hb4 := hb
        try simp only [decide_eq_true_eq, decide_eq_false_iff_not, Bool.not_eq_true', Bool.not_eq_false', Bool.not_eq_true, Bool.not_eq_false, beq_iff_eq, bne_iff_ne, beq_eq_false_iff_ne, bne_eq_false_iff_eq, ne_eq, Decidable.not_not] at hb
        first | rw [if_pos hb4] at h | rw [if_neg (Bool.eq_false_iff.1 hb4)] at h | rw [if_pos hb] at h | rw [if_neg hb] at h | (simp only [hb, Bool.not_false, Bool.not_true, Bool.false_eq_true, if_true, if_false, reduceIte] at h) | skip
        repeat (first | (rw [Option.ite_none_right_eq_some] at h; obtain ⟨_, h⟩ := h) | (rw [Option.ite_none_left_eq_some] at h; obtain ⟨_, h⟩ := h) | (simp only [Option.bind_some] at h))
        refine AWp.skip ?_
        refine AWp.seq ?_
        refine W.kp [0, 1, 2, 3, 4, 9, 14, 20] ?_
        refine AWp.region ?_
        refine L.Y Y.asg ?_
        refine AList.nil ?_
        repeat (first | (rw [Option.ite_none_right_eq_some] at h; obtain ⟨_, h⟩ := h) | (rw [Option.ite_none_left_eq_some] at h; obtain ⟨_, h⟩ := h) | (simp only [Option.bind_some] at h))
        obtain rfl := Option.some.inj h
        refine AWp.ret ?_
        exact ⟨.inr rfl, [(4, _)], _, ⟨rfl, rfl⟩, IsPart.at [] [] base0 .nil (E.c .nil)⟩

end Go.Proofs.Ytpippjgphndjmaa.PFnExactLeastParts
