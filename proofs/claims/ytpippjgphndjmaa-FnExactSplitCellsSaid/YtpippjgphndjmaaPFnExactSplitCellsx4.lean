-- Written by a program of this session's (wip/myprint2): the functions by the kit's print, the walks by awgen.py. Lean checks it.
import Derived.Test.YtpippjgphndjmaaPFnExactSplitCellsx0
import Derived.Test.YtpippjgphndjmaaPFnExactSplitCellsx1
import Derived.Test.YtpippjgphndjmaaPFnExactSplitCellsx2
import Derived.Test.YtpippjgphndjmaaPFnExactSplitCellsx3
namespace Go.Proofs.Ytpippjgphndjmaa.PFnExactSplitCells
open Go.RowKit Go.Proofs.YtpippjgphndjmaaW.PrintWords Go.Proofs.YtpippjgphndjmaaW.PrintLast Go.Proofs.YtpippjgphndjmaaW.PrintMore Go.Proofs.YtpippjgphndjmaaM Go.Proofs.YtpippjgphndjmaaA
attribute [local go_sem] max2_int min2_int max_two min_two max_three min_three max_four min_four   -- for this text's walks alone
set_option linter.unusedVariables false
set_option linter.unusedSimpArgs false

/-! ### spec_feSplit: function 41 -/
mutual
def spec_feSplit.l0 : Nat → List Int → List Int → Int → Int → Int → Int → List Int → Option (List Int × Bool)
  | 0, _, _, _, _, _, _, _ => none
  | k + 1, x1, x2, x3, x10, x158000, x158001, x158002 => if x10 < x3 then ((spec_fePart.f k x1 x2 x10).bind fun t158 => ((spec_feOrder.f k x158000 x158001 x158002 t158).bind fun bt161 => (if bt161.2 = true then (spec_feSplit.l0 k x1 x2 x3 (wrap64 (x10 + 1)) x158000 x158001 x158002) else (some (([] : List Int), false))))) else (if (x2.length : Int) = (x1.length : Int) then (some (x2, true)) else (spec_feSplit.l1 k x1 x2 x3 0 x158000 x158001 x158002))
def spec_feSplit.l1 : Nat → List Int → List Int → Int → Int → Int → Int → List Int → Option (List Int × Bool)
  | 0, _, _, _, _, _, _, _ => none
  | k + 1, x1, x2, x3, x13, x158000, x158001, x158002 => if x13 < x3 then ((spec_l1Own.f x2).bind fun t165 => (if t165.length < 17592186044416 then ((spec_feSplit.f k x158000 x158001 x158002 x1 (t165 ++ [x13]) x3).bind fun bt171 => (if bt171.2 = true then (some (bt171.1, true)) else (spec_feSplit.l1 k x1 x2 x3 (wrap64 (x13 + 1)) x158000 x158001 x158002))) else (none))) else (some (([] : List Int), false))
def spec_feSplit.f : Nat → Int → Int → List Int → List Int → List Int → Int → Option (List Int × Bool)
  | 0, _, _, _, _, _, _ => none
  | k + 1, a0_0, a0_1, l0_2, l1, l2, a3 => spec_feSplit.l0 k l1 l2 a3 0 a0_0 a0_1 l0_2
end
theorem spec_feSplit.mono_l : ∀ k, (∀ y0 y1 y2 y3 y4 y5, LeO (spec_feSplit.f k y0 y1 y2 y3 y4 y5) (spec_feSplit.f (k + 1) y0 y1 y2 y3 y4 y5)) ∧ (∀ y0 y1 y2 y3 y4 y5 y6, LeO (spec_feSplit.l0 k y0 y1 y2 y3 y4 y5 y6) (spec_feSplit.l0 (k + 1) y0 y1 y2 y3 y4 y5 y6)) ∧ (∀ y0 y1 y2 y3 y4 y5 y6, LeO (spec_feSplit.l1 k y0 y1 y2 y3 y4 y5 y6) (spec_feSplit.l1 (k + 1) y0 y1 y2 y3 y4 y5 y6))
  | 0 => ⟨fun _ _ _ _ _ _ r h => by simp [spec_feSplit.f] at h, fun _ _ _ _ _ _ _ r h => by simp [spec_feSplit.l0] at h, fun _ _ _ _ _ _ _ r h => by simp [spec_feSplit.l1] at h⟩
  | k + 1 => by
    obtain ⟨ih0, ih1, ih2⟩ := spec_feSplit.mono_l k
    refine ⟨?_, ?_, ?_⟩
    · intro y0 y1 y2 y3 y4 y5
      unfold spec_feSplit.f
      repeat' first
      | (with_reducible exact ih0 _ _ _ _ _ _)
      | (with_reducible exact ih1 _ _ _ _ _ _ _)
      | (with_reducible exact ih2 _ _ _ _ _ _ _)
      | (with_reducible exact spec_feOrder.mono _ _ _ _ _)
      | (with_reducible exact spec_fePart.mono _ _ _ _)
      | (with_reducible exact LeO.refl _)
      | (with_reducible exact LeO.none _)
      | (with_reducible refine LeO.ite ?_ ?_)
      | (with_reducible refine LeO.bind ?_ (fun _ => ?_))
      | exact ih0 _ _ _ _ _ _
      | exact ih1 _ _ _ _ _ _ _
      | exact ih2 _ _ _ _ _ _ _
      | exact spec_feOrder.mono _ _ _ _ _
      | exact spec_fePart.mono _ _ _ _
      | exact LeO.none _
      | refine LeO.ite ?_ ?_
      | refine LeO.bind ?_ (fun _ => ?_)
    · intro y0 y1 y2 y3 y4 y5 y6
      unfold spec_feSplit.l0
      repeat' first
      | (with_reducible exact ih0 _ _ _ _ _ _)
      | (with_reducible exact ih1 _ _ _ _ _ _ _)
      | (with_reducible exact ih2 _ _ _ _ _ _ _)
      | (with_reducible exact spec_feOrder.mono _ _ _ _ _)
      | (with_reducible exact spec_fePart.mono _ _ _ _)
      | (with_reducible exact LeO.refl _)
      | (with_reducible exact LeO.none _)
      | (with_reducible refine LeO.ite ?_ ?_)
      | (with_reducible refine LeO.bind ?_ (fun _ => ?_))
      | exact ih0 _ _ _ _ _ _
      | exact ih1 _ _ _ _ _ _ _
      | exact ih2 _ _ _ _ _ _ _
      | exact spec_feOrder.mono _ _ _ _ _
      | exact spec_fePart.mono _ _ _ _
      | exact LeO.none _
      | refine LeO.ite ?_ ?_
      | refine LeO.bind ?_ (fun _ => ?_)
    · intro y0 y1 y2 y3 y4 y5 y6
      unfold spec_feSplit.l1
      repeat' first
      | (with_reducible exact ih0 _ _ _ _ _ _)
      | (with_reducible exact ih1 _ _ _ _ _ _ _)
      | (with_reducible exact ih2 _ _ _ _ _ _ _)
      | (with_reducible exact spec_feOrder.mono _ _ _ _ _)
      | (with_reducible exact spec_fePart.mono _ _ _ _)
      | (with_reducible exact LeO.refl _)
      | (with_reducible exact LeO.none _)
      | (with_reducible refine LeO.ite ?_ ?_)
      | (with_reducible refine LeO.bind ?_ (fun _ => ?_))
      | exact ih0 _ _ _ _ _ _
      | exact ih1 _ _ _ _ _ _ _
      | exact ih2 _ _ _ _ _ _ _
      | exact spec_feOrder.mono _ _ _ _ _
      | exact spec_fePart.mono _ _ _ _
      | exact LeO.none _
      | refine LeO.ite ?_ ?_
      | refine LeO.bind ?_ (fun _ => ?_)
theorem spec_feSplit.mono : ∀ a0 a1 a2 a3 a4 a5 k, LeO (spec_feSplit.f k a0 a1 a2 a3 a4 a5) (spec_feSplit.f (k + 1) a0 a1 a2 a3 a4 a5) := by
  intro a0 a1 a2 a3 a4 a5 k
  obtain ⟨ih0, ih1, ih2⟩ := spec_feSplit.mono_l k
  exact ih0 a0 a1 a2 a3 a4 a5
set_option maxRecDepth 100000 in
set_option maxHeartbeats 20000000 in
theorem spec_feSplit.ac : ∀ (k : Nat) (a0_0 : Int) (a0_1 : Int) (l0_2 : List Int) (l1 : List Int) (l2 : List Int) (a3 : Int) (r1 : List Int) (r2 : Bool) (_ : spec_feSplit.f k a0_0 a0_1 l0_2 l1 l2 a3 = some (r1, r2)),
    ACalls Try.prog 41 [.agg [.lit (.int .i64 a0_0), .lit (.int .i64 a0_1), .row 1 l0_2.length false (ints .i64 l0_2)], .row 1 l1.length false (ints .i64 l1), .own 0 l2.length, .lit (.int .i64 a3)] [.sl 3 1 l2.length false (ints .i64 l2)] (fun v H' => v = .tup [.own 1 r1.length, .lit (.bool r2)] ∧ H' = [.gone, .sl 3 1 r1.length false (ints .i64 r1)]) := by
  intro k
  induction k using Nat.strongRecOn with
  | _ k ih =>
  intro a0_0 a0_1 l0_2 l1 l2 a3 r1 r2 h
  cases k with
  | zero => exact absurd h (by simp [spec_feSplit.f])
  | succ k =>
  refine ACalls.ofP [8, 9] Try.func41 rfl (by exact Nat.le_of_ble_eq_true rfl) rfl (by decide) ?_
  simp only [Try.ntmps41, env0, spec_feSplit.f] at h ⊢
  repeat (first | (rw [Option.ite_none_right_eq_some] at h; obtain ⟨_, h⟩ := h) | (rw [Option.ite_none_left_eq_some] at h; obtain ⟨_, h⟩ := h) | (simp only [Option.bind_some] at h))
  refine AWp.seq ?_
  refine AWp.region ?_
  refine L.M M.bx ?_
  refine L.Y Y.asg ?_
  refine L.Y Y.asg ?_
  refine AList.nil ?_
  refine AWp.seq ?_
  refine AWp.seq ?_
  refine AWp.region ?_
  refine L.Y Y.asg ?_
  refine AList.nil ?_
  refine AWp.block ?_
  repeat (first | (rw [Option.ite_none_right_eq_some] at h; obtain ⟨_, h⟩ := h) | (rw [Option.ite_none_left_eq_some] at h; obtain ⟨_, h⟩ := h) | (simp only [Option.bind_some] at h))
  refine AWp.loopI (fun kk e H => kk ≤ k ∧ ∃ (x2 : List Int) (x3 : Int) (x10 : Int) (x158000 : Int) (x158001 : Int), e = [(1, .row 1 l1.length false (ints .i64 l1)), (2, .own 0 x2.length), (3, .lit (.int .i64 x3)), (4, .ptr 1 0), (10, .lit (.int .i64 x10))] ∧ H = [.sl 3 1 x2.length false (ints .i64 x2), .bx 28 [.lit (.int .i64 x158000), .lit (.int .i64 x158001), .row 1 l0_2.length false (ints .i64 l0_2)]] ∧ spec_feSplit.l0 kk l1 x2 x3 x10 x158000 x158001 l0_2 = some (r1, r2)) (k := k)
    ⟨_, _, ⟨Nat.le_refl _, _, _, _, _, _, rfl, rfl, h⟩, IsPart.at [] [0, 1] base1 (H.c (H.c .nil)) (E.c (E.c (E.c (E.c (E.c .nil)))))⟩ ?_
  clear h
  rintro k1 e H ⟨hk2, x2, x3, x10, x158000, x158001, rfl, rfl, h⟩
  cases k1 with
  | zero => exact absurd h (by simp [spec_feSplit.l0])
  | succ k1 =>
  simp only [spec_feSplit.l0] at h
  repeat (first | (rw [Option.ite_none_right_eq_some] at h; obtain ⟨_, h⟩ := h) | (rw [Option.ite_none_left_eq_some] at h; obtain ⟨_, h⟩ := h) | (simp only [Option.bind_some] at h))
  refine AWp.seq ?_
  refine AWp.seq ?_
  refine AWp.region ?_
  refine L.Y Y.mv ?_
  refine L.Y Y.mv ?_
  refine L.Y Y.bin ?_
  refine AList.nil ?_
  refine W.cond (fun hb => ?_) (fun hb => ?_)
  · have hb3 := hb
    try simp only [decide_eq_true_eq, decide_eq_false_iff_not, Bool.not_eq_true', Bool.not_eq_false', Bool.not_eq_true, Bool.not_eq_false, beq_iff_eq, bne_iff_ne, beq_eq_false_iff_ne, bne_eq_false_iff_eq, ne_eq, Decidable.not_not] at hb
    first | rw [if_pos hb3] at h | rw [if_neg (Bool.eq_false_iff.1 hb3)] at h | rw [if_pos hb] at h | rw [if_neg hb] at h | (simp only [hb, Bool.not_false, Bool.not_true, Bool.false_eq_true, if_true, if_false, reduceIte] at h) | skip
    repeat (first | (rw [Option.ite_none_right_eq_some] at h; obtain ⟨_, h⟩ := h) | (rw [Option.ite_none_left_eq_some] at h; obtain ⟨_, h⟩ := h) | (simp only [Option.bind_some] at h))
    refine AWp.skip ?_
    refine AWp.seq ?_
    refine AWp.block ?_
    refine AWp.seq ?_
    refine Dt.reg [] [] (.t 0 (.y 1 (.y 2 (.y 3 (.one 4 (.one 5 (.y 6 (.y 7 (.y 8 (.y 9 (.y 10 .done))))))))))) HM ?_
    refine Dt.T rfl wantN (D.ldN Try.underlying28 Y28) ?_
    refine Dt.Y rfl wantN Y.mv ?_
    refine Dt.Y rfl wantN Y.mv ?_
    refine Dt.Y rfl wantN Y.mv ?_
    refine Dt.O (g' := false) rfl wantN ?_
    repeat (first | (rw [Option.ite_none_right_eq_some] at h; obtain ⟨_, h⟩ := h) | (rw [Option.ite_none_left_eq_some] at h; obtain ⟨_, h⟩ := h) | (simp only [Option.bind_some] at h))
    obtain ⟨t158, hc4, h⟩ := Option.bind_eq_some_iff.1 h
    repeat (first | (rw [Option.ite_none_right_eq_some] at h; obtain ⟨_, h⟩ := h) | (rw [Option.ite_none_left_eq_some] at h; obtain ⟨_, h⟩ := h) | (simp only [Option.bind_some] at h))
    refine Ox.C true [] Try.func61 (spec_fePart.ac _ _ _ _ _ hc4) .nil ?_
    refine Dt.O (g' := false) rfl wantN ?_
    repeat (first | (rw [Option.ite_none_right_eq_some] at h; obtain ⟨_, h⟩ := h) | (rw [Option.ite_none_left_eq_some] at h; obtain ⟨_, h⟩ := h) | (simp only [Option.bind_some] at h))
    obtain ⟨⟨t161, t164⟩, hc5, h⟩ := Option.bind_eq_some_iff.1 h
    dsimp only at h
    repeat (first | (rw [Option.ite_none_right_eq_some] at h; obtain ⟨_, h⟩ := h) | (rw [Option.ite_none_left_eq_some] at h; obtain ⟨_, h⟩ := h) | (simp only [Option.bind_some] at h))
    refine Ox.C true [] Try.func56 (spec_feOrder.ac _ _ _ _ _ _ _ hc5) .nil ?_
    refine Dt.Y rfl wantN Y.mv ?_
    refine Dt.Y rfl wantN Y.ex ?_
    refine Dt.Y rfl wantN Y.ex ?_
    refine Dt.Y rfl wantN Y.asg ?_
    refine Dt.Y rfl wantN Y.asg ?_
    refine Dt.nil ?_
    refine AWp.seq ?_
    refine W.kp [1, 2, 3, 4, 10, 12, 18] ?_
    refine AWp.region ?_
    refine L.Y Y.mv ?_
    refine L.Y Y.nt ?_
    refine AList.nil ?_
    refine W.cond (fun hb => ?_) (fun hb => ?_)
    · have hb6 := hb
      try simp only [decide_eq_true_eq, decide_eq_false_iff_not, Bool.not_eq_true', Bool.not_eq_false', Bool.not_eq_true, Bool.not_eq_false, beq_iff_eq, bne_iff_ne, beq_eq_false_iff_ne, bne_eq_false_iff_eq, ne_eq, Decidable.not_not] at hb
      first | rw [if_pos hb6] at h | rw [if_neg (Bool.eq_false_iff.1 hb6)] at h | rw [if_pos hb] at h | rw [if_neg hb] at h | (simp only [hb, Bool.not_false, Bool.not_true, Bool.false_eq_true, if_true, if_false, reduceIte] at h) | skip
      repeat (first | (rw [Option.ite_none_right_eq_some] at h; obtain ⟨_, h⟩ := h) | (rw [Option.ite_none_left_eq_some] at h; obtain ⟨_, h⟩ := h) | (simp only [Option.bind_some] at h))
      refine AWp.seq ?_
      refine AWp.region ?_
      refine L.Y Y.asg ?_
      refine L.Y Y.asg ?_
      refine AList.nil ?_
      repeat (first | (rw [Option.ite_none_right_eq_some] at h; obtain ⟨_, h⟩ := h) | (rw [Option.ite_none_left_eq_some] at h; obtain ⟨_, h⟩ := h) | (simp only [Option.bind_some] at h))
      simp only [Option.some.injEq, Prod.mk.injEq] at h
      obtain ⟨rfl, rfl⟩ := h
      refine AWp.ret ?_
      exact ⟨.inr rfl, [(8, _), (9, _)], _, ⟨rfl, rfl⟩, IsPart.at [(0, 0), (3, 1)] [4, 5] base1 (H.c (H.c .nil)) (E.c (E.c .nil))⟩
    · have hb6 := hb
      try simp only [decide_eq_true_eq, decide_eq_false_iff_not, Bool.not_eq_true', Bool.not_eq_false', Bool.not_eq_true, Bool.not_eq_false, beq_iff_eq, bne_iff_ne, beq_eq_false_iff_ne, bne_eq_false_iff_eq, ne_eq, Decidable.not_not] at hb
      first | rw [if_pos hb6] at h | rw [if_neg (Bool.eq_false_iff.1 hb6)] at h | rw [if_pos hb] at h | rw [if_neg hb] at h | (simp only [hb, Bool.not_false, Bool.not_true, Bool.false_eq_true, if_true, if_false, reduceIte] at h) | skip
      repeat (first | (rw [Option.ite_none_right_eq_some] at h; obtain ⟨_, h⟩ := h) | (rw [Option.ite_none_left_eq_some] at h; obtain ⟨_, h⟩ := h) | (simp only [Option.bind_some] at h))
      refine AWp.skip ?_
      refine AWp.region ?_
      refine L.Y Y.mv ?_
      refine L.Y Y.bin ?_
      refine L.Y Y.asg ?_
      refine AList.nil ?_
      repeat (first | (rw [Option.ite_none_right_eq_some] at h; obtain ⟨_, h⟩ := h) | (rw [Option.ite_none_left_eq_some] at h; obtain ⟨_, h⟩ := h) | (simp only [Option.bind_some] at h))
      exact ⟨k1, by omega, _, _, ⟨by omega, _, _, _, _, _, rfl, rfl, h⟩, IsPart.at [] [0, 1] base1 (H.c (H.c .nil)) (E.c (E.c (E.c (E.c (E.c .nil)))))⟩
  · have hb3 := hb
    try simp only [decide_eq_true_eq, decide_eq_false_iff_not, Bool.not_eq_true', Bool.not_eq_false', Bool.not_eq_true, Bool.not_eq_false, beq_iff_eq, bne_iff_ne, beq_eq_false_iff_ne, bne_eq_false_iff_eq, ne_eq, Decidable.not_not] at hb
    first | rw [if_pos hb3] at h | rw [if_neg (Bool.eq_false_iff.1 hb3)] at h | rw [if_pos hb] at h | rw [if_neg hb] at h | (simp only [hb, Bool.not_false, Bool.not_true, Bool.false_eq_true, if_true, if_false, reduceIte] at h) | skip
    repeat (first | (rw [Option.ite_none_right_eq_some] at h; obtain ⟨_, h⟩ := h) | (rw [Option.ite_none_left_eq_some] at h; obtain ⟨_, h⟩ := h) | (simp only [Option.bind_some] at h))
    refine AWp.exit ?_
    refine AWp.seq ?_
    refine AWp.seq ?_
    refine AWp.region ?_
    refine L.Y Y.mv ?_
    refine L.Y (Y.ln Try.underlying22) ?_
    refine L.Y Y.mv ?_
    refine L.Y (Y.ln Try.underlying22) ?_
    refine L.Y Y.bin ?_
    refine AList.nil ?_
    refine W.cond (fun hb => ?_) (fun hb => ?_)
    · have hb7 := hb
      try simp only [decide_eq_true_eq, decide_eq_false_iff_not, Bool.not_eq_true', Bool.not_eq_false', Bool.not_eq_true, Bool.not_eq_false, beq_iff_eq, bne_iff_ne, beq_eq_false_iff_ne, bne_eq_false_iff_eq, ne_eq, Decidable.not_not] at hb
      first | rw [if_pos hb7] at h | rw [if_neg (Bool.eq_false_iff.1 hb7)] at h | rw [if_pos hb] at h | rw [if_neg hb] at h | (simp only [hb, Bool.not_false, Bool.not_true, Bool.false_eq_true, if_true, if_false, reduceIte] at h) | skip
      repeat (first | (rw [Option.ite_none_right_eq_some] at h; obtain ⟨_, h⟩ := h) | (rw [Option.ite_none_left_eq_some] at h; obtain ⟨_, h⟩ := h) | (simp only [Option.bind_some] at h))
      refine AWp.seq ?_
      refine W.kp [1, 2, 3, 4, 10, 18, 36] ?_
      refine AWp.region ?_
      refine L.Y Y.mv ?_
      refine L.Y Y.asg ?_
      refine L.Y Y.asg ?_
      refine AList.nil ?_
      repeat (first | (rw [Option.ite_none_right_eq_some] at h; obtain ⟨_, h⟩ := h) | (rw [Option.ite_none_left_eq_some] at h; obtain ⟨_, h⟩ := h) | (simp only [Option.bind_some] at h))
      simp only [Option.some.injEq, Prod.mk.injEq] at h
      obtain ⟨rfl, rfl⟩ := h
      refine AWp.ret ?_
      exact ⟨.inr rfl, [(8, _), (9, _)], _, ⟨rfl, rfl⟩, IsPart.at [(0, 0)] [2, 0] base1 (H.c (H.c .nil)) (E.c (E.c .nil))⟩
    · have hb7 := hb
      try simp only [decide_eq_true_eq, decide_eq_false_iff_not, Bool.not_eq_true', Bool.not_eq_false', Bool.not_eq_true, Bool.not_eq_false, beq_iff_eq, bne_iff_ne, beq_eq_false_iff_ne, bne_eq_false_iff_eq, ne_eq, Decidable.not_not] at hb
      first | rw [if_pos hb7] at h | rw [if_neg (Bool.eq_false_iff.1 hb7)] at h | rw [if_pos hb] at h | rw [if_neg hb] at h | (simp only [hb, Bool.not_false, Bool.not_true, Bool.false_eq_true, if_true, if_false, reduceIte] at h) | skip
      repeat (first | (rw [Option.ite_none_right_eq_some] at h; obtain ⟨_, h⟩ := h) | (rw [Option.ite_none_left_eq_some] at h; obtain ⟨_, h⟩ := h) | (simp only [Option.bind_some] at h))
      refine AWp.skip ?_
      refine AWp.seq ?_
      refine AWp.seq ?_
      refine W.kp [1, 2, 3, 4, 10, 18, 36] ?_
      refine AWp.region ?_
      refine L.Y Y.asg ?_
      refine AList.nil ?_
      refine AWp.block ?_
      repeat (first | (rw [Option.ite_none_right_eq_some] at h; obtain ⟨_, h⟩ := h) | (rw [Option.ite_none_left_eq_some] at h; obtain ⟨_, h⟩ := h) | (simp only [Option.bind_some] at h))
      refine AWp.loopI (fun kk e H => kk ≤ k1 ∧ ∃ (x2 : List Int) (x3 : Int) (x13 : Int) (x158000 : Int) (x158001 : Int), e = [(1, .row 1 l1.length false (ints .i64 l1)), (2, .own 0 x2.length), (3, .lit (.int .i64 x3)), (4, .ptr 1 0), (13, .lit (.int .i64 x13))] ∧ H = [.sl 3 1 x2.length false (ints .i64 x2), .bx 28 [.lit (.int .i64 x158000), .lit (.int .i64 x158001), .row 1 l0_2.length false (ints .i64 l0_2)]] ∧ spec_feSplit.l1 kk l1 x2 x3 x13 x158000 x158001 l0_2 = some (r1, r2)) (k := k1)
        ⟨_, _, ⟨Nat.le_refl _, _, _, _, _, _, rfl, rfl, h⟩, IsPart.at [] [0, 1] base1 (H.c (H.c .nil)) (E.c (E.c (E.c (E.c (E.c .nil)))))⟩ ?_
      clear h
      rintro k8 e H ⟨hk9, x2, x3, x13, x158000, x158001, rfl, rfl, h⟩
      cases k8 with
      | zero => exact absurd h (by simp [spec_feSplit.l1])
      | succ k8 =>
      simp only [spec_feSplit.l1] at h
      repeat (first | (rw [Option.ite_none_right_eq_some] at h; obtain ⟨_, h⟩ := h) | (rw [Option.ite_none_left_eq_some] at h; obtain ⟨_, h⟩ := h) | (simp only [Option.bind_some] at h))
      refine AWp.seq ?_
      refine AWp.seq ?_
      refine AWp.region ?_
      refine L.Y Y.mv ?_
      refine L.Y Y.mv ?_
      refine L.Y Y.bin ?_
      refine AList.nil ?_
      refine W.cond (fun hb => ?_) (fun hb => ?_)
      · have hb10 := hb
        try simp only [decide_eq_true_eq, decide_eq_false_iff_not, Bool.not_eq_true', Bool.not_eq_false', Bool.not_eq_true, Bool.not_eq_false, beq_iff_eq, bne_iff_ne, beq_eq_false_iff_ne, bne_eq_false_iff_eq, ne_eq, Decidable.not_not] at hb
        first | rw [if_pos hb10] at h | rw [if_neg (Bool.eq_false_iff.1 hb10)] at h | rw [if_pos hb] at h | rw [if_neg hb] at h | (simp only [hb, Bool.not_false, Bool.not_true, Bool.false_eq_true, if_true, if_false, reduceIte] at h) | skip
        repeat (first | (rw [Option.ite_none_right_eq_some] at h; obtain ⟨_, h⟩ := h) | (rw [Option.ite_none_left_eq_some] at h; obtain ⟨_, h⟩ := h) | (simp only [Option.bind_some] at h))
        refine AWp.skip ?_
        refine AWp.seq ?_
        refine AWp.block ?_
        refine AWp.seq ?_
        repeat (first | (rw [Option.ite_none_right_eq_some] at h; obtain ⟨_, h⟩ := h) | (rw [Option.ite_none_left_eq_some] at h; obtain ⟨_, h⟩ := h) | (simp only [Option.bind_some] at h))
        obtain ⟨t165, hc11, h⟩ := Option.bind_eq_some_iff.1 h
        repeat (first | (rw [Option.ite_none_right_eq_some] at h; obtain ⟨_, h⟩ := h) | (rw [Option.ite_none_left_eq_some] at h; obtain ⟨_, h⟩ := h) | (simp only [Option.bind_some] at h))
        repeat (first | (rw [Option.ite_none_right_eq_some] at h; obtain ⟨_, h⟩ := h) | (rw [Option.ite_none_left_eq_some] at h; obtain ⟨_, h⟩ := h) | (simp only [Option.bind_some] at h))
        obtain ⟨⟨t171, t174⟩, hc12, h⟩ := Option.bind_eq_some_iff.1 h
        dsimp only at h
        repeat (first | (rw [Option.ite_none_right_eq_some] at h; obtain ⟨_, h⟩ := h) | (rw [Option.ite_none_left_eq_some] at h; obtain ⟨_, h⟩ := h) | (simp only [Option.bind_some] at h))
        apply AWp.joinX
        · refine Dt.reg [] [] (.t 0 (.y 1 (.y 2 (.y 4 (.y 7 (.two 3 (.one 5 (.one 6 (.one 8 (.y 9 (.y 10 (.y 11 (.y 12 (.y 13 .done)))))))) 5 (.one 3 (.one 6 (.one 8 (.y 9 (.y 10 (.y 11 (.y 12 (.y 13 .done)))))))))))))) HM ?_
          refine Dt.T rfl wantN (D.ldN Try.underlying28 Y28) ?_
          refine Dt.Y rfl wantN Y.mv ?_
          refine Dt.Y rfl wantN Y.mv ?_
          refine Dt.Y rfl wantN Y.mv ?_
          refine Dt.Y rfl wantN Y.mv ?_
          refine Dt.B (g1 := false) (g2 := false) rfl rfl wantN wantN ?_ ?_
          · skip
            refine Ox.C true [] Try.func68 (spec_l1Own.ac _ _ hc11) .nil ?_
            refine Dt.O (g' := false) rfl wantN ?_
            refine Ox.M (M.bs Try.underlying22 Y3) ?_
            refine Dt.O (g' := false) rfl wantN ?_
            refine Ox.A (U.ap (nn' := false) Try.underlying22 Y3) ?_
            refine Dt.O (g' := false) rfl wantN ?_
            refine Ox.C true [2] Try.func41 (ih k8 (by omega) _ _ _ _ _ _ _ _ hc12) (H.c .nil) ?_
            refine Dt.Y rfl wantN Y.mv ?_
            refine Dt.Y rfl wantN Y.ex ?_
            refine Dt.Y rfl wantN Y.ex ?_
            refine Dt.Y rfl wantN Y.asg ?_
            refine Dt.Y rfl wantN Y.asg ?_
            refine Dt.nil ?_
            exact ⟨rfl, .inl ⟨rfl, rfl⟩⟩
          · skip
            refine Ox.M (M.bs Try.underlying22 Y3) ?_
            refine Dt.O (g' := false) rfl wantN ?_
            refine Ox.C true [] Try.func68 (spec_l1Own.ac _ _ hc11) .nil ?_
            refine Dt.O (g' := false) rfl wantN ?_
            refine Ox.A (U.ap (nn' := false) Try.underlying22 Y3) ?_
            refine Dt.O (g' := false) rfl wantN ?_
            refine Ox.C true [3] Try.func41 (ih k8 (by omega) _ _ _ _ _ _ _ _ hc12) (H.c .nil) ?_
            refine Dt.Y rfl wantN Y.mv ?_
            refine Dt.Y rfl wantN Y.ex ?_
            refine Dt.Y rfl wantN Y.ex ?_
            refine Dt.Y rfl wantN Y.asg ?_
            refine Dt.Y rfl wantN Y.asg ?_
            refine Dt.nil ?_
            exact ⟨rfl, .inr (IsPart.at [] [0, 1, 3, 2, 4] base1 (H.c (H.c (H.c (H.c (H.c .nil))))) (by repeat' first | exact .nil | refine E.c ?_))⟩
        · skip
          refine AWp.seq ?_
          refine W.kp [1, 2, 3, 4, 13, 14, 15, 40] ?_
          refine AWp.region ?_
          refine L.Y Y.mv ?_
          refine AList.nil ?_
          refine W.cond (fun hb => ?_) (fun hb => ?_)
          · have hb13 := hb
            try simp only [decide_eq_true_eq, decide_eq_false_iff_not, Bool.not_eq_true', Bool.not_eq_false', Bool.not_eq_true, Bool.not_eq_false, beq_iff_eq, bne_iff_ne, beq_eq_false_iff_ne, bne_eq_false_iff_eq, ne_eq, Decidable.not_not] at hb
            first | rw [if_pos hb13] at h | rw [if_neg (Bool.eq_false_iff.1 hb13)] at h | rw [if_pos hb] at h | rw [if_neg hb] at h | (simp only [hb, Bool.not_false, Bool.not_true, Bool.false_eq_true, if_true, if_false, reduceIte] at h) | skip
            repeat (first | (rw [Option.ite_none_right_eq_some] at h; obtain ⟨_, h⟩ := h) | (rw [Option.ite_none_left_eq_some] at h; obtain ⟨_, h⟩ := h) | (simp only [Option.bind_some] at h))
            refine AWp.seq ?_
            refine AWp.region ?_
            refine L.Y Y.mv ?_
            refine L.Y Y.asg ?_
            refine L.Y Y.asg ?_
            refine AList.nil ?_
            repeat (first | (rw [Option.ite_none_right_eq_some] at h; obtain ⟨_, h⟩ := h) | (rw [Option.ite_none_left_eq_some] at h; obtain ⟨_, h⟩ := h) | (simp only [Option.bind_some] at h))
            simp only [Option.some.injEq, Prod.mk.injEq] at h
            obtain ⟨rfl, rfl⟩ := h
            refine AWp.ret ?_
            exact ⟨.inr rfl, [(8, _), (9, _)], _, ⟨rfl, rfl⟩, IsPart.at [(0, 0)] [5, 4] base1 (H.c (H.c .nil)) (E.c (E.c .nil))⟩
          · have hb13 := hb
            try simp only [decide_eq_true_eq, decide_eq_false_iff_not, Bool.not_eq_true', Bool.not_eq_false', Bool.not_eq_true, Bool.not_eq_false, beq_iff_eq, bne_iff_ne, beq_eq_false_iff_ne, bne_eq_false_iff_eq, ne_eq, Decidable.not_not] at hb
            first | rw [if_pos hb13] at h | rw [if_neg (Bool.eq_false_iff.1 hb13)] at h | rw [if_pos hb] at h | rw [if_neg hb] at h | (simp only [hb, Bool.not_false, Bool.not_true, Bool.false_eq_true, if_true, if_false, reduceIte] at h) | skip
            repeat (first | (rw [Option.ite_none_right_eq_some] at h; obtain ⟨_, h⟩ := h) | (rw [Option.ite_none_left_eq_some] at h; obtain ⟨_, h⟩ := h) | (simp only [Option.bind_some] at h))
            refine AWp.skip ?_
            refine AWp.region ?_
            refine L.Y Y.mv ?_
            refine L.Y Y.bin ?_
            refine L.Y Y.asg ?_
            refine AList.nil ?_
            repeat (first | (rw [Option.ite_none_right_eq_some] at h; obtain ⟨_, h⟩ := h) | (rw [Option.ite_none_left_eq_some] at h; obtain ⟨_, h⟩ := h) | (simp only [Option.bind_some] at h))
            exact ⟨k8, by omega, _, _, ⟨by omega, _, _, _, _, _, rfl, rfl, h⟩, IsPart.at [] [0, 1] base1 (H.c (H.c .nil)) (E.c (E.c (E.c (E.c (E.c .nil)))))⟩
      · have hb10 := hb
        try simp only [decide_eq_true_eq, decide_eq_false_iff_not, Bool.not_eq_true', Bool.not_eq_false', Bool.not_eq_true, Bool.not_eq_false, beq_iff_eq, bne_iff_ne, beq_eq_false_iff_ne, bne_eq_false_iff_eq, ne_eq, Decidable.not_not] at hb
        first | rw [if_pos hb10] at h | rw [if_neg (Bool.eq_false_iff.1 hb10)] at h | rw [if_pos hb] at h | rw [if_neg hb] at h | (simp only [hb, Bool.not_false, Bool.not_true, Bool.false_eq_true, if_true, if_false, reduceIte] at h) | skip
        repeat (first | (rw [Option.ite_none_right_eq_some] at h; obtain ⟨_, h⟩ := h) | (rw [Option.ite_none_left_eq_some] at h; obtain ⟨_, h⟩ := h) | (simp only [Option.bind_some] at h))
        refine AWp.exit ?_
        refine AWp.seq ?_
        refine AWp.region ?_
        refine L.Y Y.asg ?_
        refine L.Y Y.asg ?_
        refine AList.nil ?_
        repeat (first | (rw [Option.ite_none_right_eq_some] at h; obtain ⟨_, h⟩ := h) | (rw [Option.ite_none_left_eq_some] at h; obtain ⟨_, h⟩ := h) | (simp only [Option.bind_some] at h))
        simp only [Option.some.injEq, Prod.mk.injEq] at h
        obtain ⟨rfl, rfl⟩ := h
        refine AWp.ret ?_
        exact ⟨.inr rfl, [(8, _), (9, _)], _, ⟨rfl, rfl⟩, IsPart.at [(0, 0), (3, 1)] [2, 3] base1 (H.c (H.c .nil)) (E.c (E.c .nil))⟩

/-! ### spec_SplitCells: function 13 -/
def spec_SplitCells.j0 : Nat → Int → Bool → Int → Int → List Int → Option (List Int × Bool)
  | 0, _, _, _, _, _ => none
  | k + 1, x1, x13, x176000, x176001, x176002 => if x13 = true then (some (([] : List Int), false)) else ((spec_feEmpty.f k x176000 x176001 x176002).bind fun t178 => ((spec_feSplit.f k x176000 x176001 x176002 t178 ([] : List Int) x1).bind fun bt181 => (some (bt181.1, bt181.2))))
def spec_SplitCells.f (k : Nat) (a0_0 : Int) (a0_1 : Int) (l0_2 : List Int) (a1 : Int) : Option (List Int × Bool) := (spec_feFew.f k a0_0 a0_1 l0_2).bind fun t176 => (if t176 = true then ((spec_l1In.f a1 1 4).bind fun t177 => (spec_SplitCells.j0 k a1 (!t177) a0_0 a0_1 l0_2)) else (spec_SplitCells.j0 k a1 true a0_0 a0_1 l0_2))
theorem spec_SplitCells.mono_l : ∀ k, (∀ y0 y1 y2 y3 y4, LeO (spec_SplitCells.j0 k y0 y1 y2 y3 y4) (spec_SplitCells.j0 (k + 1) y0 y1 y2 y3 y4))
  | 0 => fun _ _ _ _ _ r h => by simp [spec_SplitCells.j0] at h
  | k + 1 => by
    have ih0 := spec_SplitCells.mono_l k
    · intro y0 y1 y2 y3 y4
      unfold spec_SplitCells.j0
      repeat' first
      | (with_reducible exact ih0 _ _ _ _ _)
      | (with_reducible exact spec_feEmpty.mono _ _ _ _)
      | (with_reducible exact spec_feFew.mono _ _ _ _)
      | (with_reducible exact spec_feSplit.mono _ _ _ _ _ _ _)
      | (with_reducible exact LeO.refl _)
      | (with_reducible exact LeO.none _)
      | (with_reducible refine LeO.ite ?_ ?_)
      | (with_reducible refine LeO.bind ?_ (fun _ => ?_))
      | exact ih0 _ _ _ _ _
      | exact spec_feEmpty.mono _ _ _ _
      | exact spec_feFew.mono _ _ _ _
      | exact spec_feSplit.mono _ _ _ _ _ _ _
      | exact LeO.none _
      | refine LeO.ite ?_ ?_
      | refine LeO.bind ?_ (fun _ => ?_)
theorem spec_SplitCells.mono : ∀ a0 a1 a2 a3 k, LeO (spec_SplitCells.f k a0 a1 a2 a3) (spec_SplitCells.f (k + 1) a0 a1 a2 a3) := by
  intro a0 a1 a2 a3 k
  have ih0 := spec_SplitCells.mono_l k
  unfold spec_SplitCells.f
  repeat' first
      | (with_reducible exact ih0 _ _ _ _ _)
      | (with_reducible exact spec_feEmpty.mono _ _ _ _)
      | (with_reducible exact spec_feFew.mono _ _ _ _)
      | (with_reducible exact spec_feSplit.mono _ _ _ _ _ _ _)
      | (with_reducible exact LeO.refl _)
      | (with_reducible exact LeO.none _)
      | (with_reducible refine LeO.ite ?_ ?_)
      | (with_reducible refine LeO.bind ?_ (fun _ => ?_))
      | exact ih0 _ _ _ _ _
      | exact spec_feEmpty.mono _ _ _ _
      | exact spec_feFew.mono _ _ _ _
      | exact spec_feSplit.mono _ _ _ _ _ _ _
      | exact LeO.none _
      | refine LeO.ite ?_ ?_
      | refine LeO.bind ?_ (fun _ => ?_)
set_option maxRecDepth 100000 in
set_option maxHeartbeats 20000000 in
theorem spec_SplitCells.ac (k : Nat) (a0_0 : Int) (a0_1 : Int) (l0_2 : List Int) (a1 : Int) (r1 : List Int) (r2 : Bool) (h : spec_SplitCells.f k a0_0 a0_1 l0_2 a1 = some (r1, r2)) :
    ACalls Try.prog 13 [.agg [.lit (.int .i64 a0_0), .lit (.int .i64 a0_1), .row 1 l0_2.length false (ints .i64 l0_2)], .lit (.int .i64 a1)] [] (fun v H' => v = .tup [.own 0 r1.length, .lit (.bool r2)] ∧ H' = [.sl 3 1 r1.length false (ints .i64 r1)]) := by
  refine ACalls.ofP [4, 5] Try.func13 rfl (by exact Nat.le_of_ble_eq_true rfl) rfl (by decide) ?_
  simp only [Try.ntmps13, env0, spec_SplitCells.f] at h ⊢
  repeat (first | (rw [Option.ite_none_right_eq_some] at h; obtain ⟨_, h⟩ := h) | (rw [Option.ite_none_left_eq_some] at h; obtain ⟨_, h⟩ := h) | (simp only [Option.bind_some] at h))
  refine AWp.seq ?_
  refine AWp.region ?_
  refine L.M M.bx ?_
  refine L.Y Y.asg ?_
  refine L.Y Y.asg ?_
  refine AList.nil ?_
  refine AWp.seq ?_
  refine AWp.seq ?_
  refine AWp.region ?_
  refine L.S (S.ldN Try.underlying28 Y28) ?_
  repeat (first | (rw [Option.ite_none_right_eq_some] at h; obtain ⟨_, h⟩ := h) | (rw [Option.ite_none_left_eq_some] at h; obtain ⟨_, h⟩ := h) | (simp only [Option.bind_some] at h))
  obtain ⟨t176, hc1, h⟩ := Option.bind_eq_some_iff.1 h
  repeat (first | (rw [Option.ite_none_right_eq_some] at h; obtain ⟨_, h⟩ := h) | (rw [Option.ite_none_left_eq_some] at h; obtain ⟨_, h⟩ := h) | (simp only [Option.bind_some] at h))
  refine L.C (C.callE (l := true) [] Try.func40 (spec_feFew.ac _ _ _ _ _ hc1) .nil ?_)
  refine L.Y Y.nt ?_
  refine L.Y Y.mv ?_
  refine L.Gc (fun hb => ?_) (fun hb => ?_)
  · have hb2 := hb
    try simp only [decide_eq_true_eq, decide_eq_false_iff_not, Bool.not_eq_true', Bool.not_eq_false', Bool.not_eq_true, Bool.not_eq_false, beq_iff_eq, bne_iff_ne, beq_eq_false_iff_ne, bne_eq_false_iff_eq, ne_eq, Decidable.not_not] at hb
    first | rw [if_pos hb2] at h | rw [if_neg (Bool.eq_false_iff.1 hb2)] at h | rw [if_pos hb] at h | rw [if_neg hb] at h | (simp only [hb, Bool.not_false, Bool.not_true, Bool.false_eq_true, if_true, if_false, reduceIte] at h) | skip
    repeat (first | (rw [Option.ite_none_right_eq_some] at h; obtain ⟨_, h⟩ := h) | (rw [Option.ite_none_left_eq_some] at h; obtain ⟨_, h⟩ := h) | (simp only [Option.bind_some] at h))
    refine L.Gn hb2 ?_
    refine L.Gn hb2 ?_
    refine L.Gn hb2 ?_
    refine L.Y (Y.pk (c := true) hb2) ?_
    refine AList.nil ?_
    rcases k with _ | k
    · exact absurd h (by simp [spec_SplitCells.j0])
    simp only [spec_SplitCells.j0] at h
    repeat (first | (rw [Option.ite_none_right_eq_some] at h; obtain ⟨_, h⟩ := h) | (rw [Option.ite_none_left_eq_some] at h; obtain ⟨_, h⟩ := h) | (simp only [Option.bind_some] at h))
    refine W.cond (fun hb => ?_) (fun hb => ?_)
    rotate_left
    · first | (cases hb; done) | contradiction | (simp_all; done) | (exfalso; (try simp only [decide_eq_true_eq, decide_eq_false_iff_not, Bool.not_eq_true', Bool.not_eq_false', Bool.not_eq_true, Bool.not_eq_false, beq_iff_eq, bne_iff_ne, beq_eq_false_iff_ne, bne_eq_false_iff_eq, ne_eq, Decidable.not_not] at hb); omega) | (exfalso; simp_all; omega)
    have hb3 := hb
    try (first | rw [if_pos hb3] at h | rw [if_neg (Bool.eq_false_iff.1 hb3)] at h | rw [if_pos hb] at h | rw [if_neg hb] at h | (simp only [hb, Bool.not_false, Bool.not_true, Bool.false_eq_true, if_true, if_false, reduceIte] at h) | skip)
    repeat (first | (rw [Option.ite_none_right_eq_some] at h; obtain ⟨_, h⟩ := h) | (rw [Option.ite_none_left_eq_some] at h; obtain ⟨_, h⟩ := h) | (simp only [Option.bind_some] at h))
    refine AWp.seq ?_
    refine W.kp [0, 1, 2, 4, 5, 13] ?_
    refine AWp.region ?_
    refine L.Y Y.asg ?_
    refine L.Y Y.asg ?_
    refine AList.nil ?_
    repeat (first | (rw [Option.ite_none_right_eq_some] at h; obtain ⟨_, h⟩ := h) | (rw [Option.ite_none_left_eq_some] at h; obtain ⟨_, h⟩ := h) | (simp only [Option.bind_some] at h))
    simp only [Option.some.injEq, Prod.mk.injEq] at h
    obtain ⟨rfl, rfl⟩ := h
    refine AWp.ret ?_
    exact ⟨.inr rfl, [(4, _), (5, _)], _, ⟨rfl, rfl⟩, IsPart.at [(3, 1)] [1] base0 (H.c .nil) (E.c (E.c .nil))⟩
  · have hb2 := hb
    try simp only [decide_eq_true_eq, decide_eq_false_iff_not, Bool.not_eq_true', Bool.not_eq_false', Bool.not_eq_true, Bool.not_eq_false, beq_iff_eq, bne_iff_ne, beq_eq_false_iff_ne, bne_eq_false_iff_eq, ne_eq, Decidable.not_not] at hb
    first | rw [if_pos hb2] at h | rw [if_neg (Bool.eq_false_iff.1 hb2)] at h | rw [if_pos hb] at h | rw [if_neg hb] at h | (simp only [hb, Bool.not_false, Bool.not_true, Bool.false_eq_true, if_true, if_false, reduceIte] at h) | skip
    repeat (first | (rw [Option.ite_none_right_eq_some] at h; obtain ⟨_, h⟩ := h) | (rw [Option.ite_none_left_eq_some] at h; obtain ⟨_, h⟩ := h) | (simp only [Option.bind_some] at h))
    refine L.Gy hb2 Y.mv ?_
    repeat (first | (rw [Option.ite_none_right_eq_some] at h; obtain ⟨_, h⟩ := h) | (rw [Option.ite_none_left_eq_some] at h; obtain ⟨_, h⟩ := h) | (simp only [Option.bind_some] at h))
    obtain ⟨t177, hc4, h⟩ := Option.bind_eq_some_iff.1 h
    repeat (first | (rw [Option.ite_none_right_eq_some] at h; obtain ⟨_, h⟩ := h) | (rw [Option.ite_none_left_eq_some] at h; obtain ⟨_, h⟩ := h) | (simp only [Option.bind_some] at h))
    refine L.GC hb2 (C.callE (l := true) [] Try.func46 (spec_l1In.ac _ _ _ _ hc4) .nil ?_)
    refine L.Gy hb2 Y.nt ?_
    refine L.Y (Y.pk (c := false) hb2) ?_
    refine AList.nil ?_
    rcases k with _ | k
    · exact absurd h (by simp [spec_SplitCells.j0])
    simp only [spec_SplitCells.j0] at h
    repeat (first | (rw [Option.ite_none_right_eq_some] at h; obtain ⟨_, h⟩ := h) | (rw [Option.ite_none_left_eq_some] at h; obtain ⟨_, h⟩ := h) | (simp only [Option.bind_some] at h))
    refine W.cond (fun hb => ?_) (fun hb => ?_)
    · have hb5 := hb
      try simp only [decide_eq_true_eq, decide_eq_false_iff_not, Bool.not_eq_true', Bool.not_eq_false', Bool.not_eq_true, Bool.not_eq_false, beq_iff_eq, bne_iff_ne, beq_eq_false_iff_ne, bne_eq_false_iff_eq, ne_eq, Decidable.not_not] at hb
      first | rw [if_pos hb5] at h | rw [if_neg (Bool.eq_false_iff.1 hb5)] at h | rw [if_pos hb] at h | rw [if_neg hb] at h | (simp only [hb, Bool.not_false, Bool.not_true, Bool.false_eq_true, if_true, if_false, reduceIte] at h) | skip
      repeat (first | (rw [Option.ite_none_right_eq_some] at h; obtain ⟨_, h⟩ := h) | (rw [Option.ite_none_left_eq_some] at h; obtain ⟨_, h⟩ := h) | (simp only [Option.bind_some] at h))
      refine AWp.seq ?_
      refine W.kp [0, 1, 2, 4, 5, 13] ?_
      refine AWp.region ?_
      refine L.Y Y.asg ?_
      refine L.Y Y.asg ?_
      refine AList.nil ?_
      repeat (first | (rw [Option.ite_none_right_eq_some] at h; obtain ⟨_, h⟩ := h) | (rw [Option.ite_none_left_eq_some] at h; obtain ⟨_, h⟩ := h) | (simp only [Option.bind_some] at h))
      simp only [Option.some.injEq, Prod.mk.injEq] at h
      obtain ⟨rfl, rfl⟩ := h
      refine AWp.ret ?_
      exact ⟨.inr rfl, [(4, _), (5, _)], _, ⟨rfl, rfl⟩, IsPart.at [(3, 1)] [1] base0 (H.c .nil) (E.c (E.c .nil))⟩
    · have hb5 := hb
      try simp only [decide_eq_true_eq, decide_eq_false_iff_not, Bool.not_eq_true', Bool.not_eq_false', Bool.not_eq_true, Bool.not_eq_false, beq_iff_eq, bne_iff_ne, beq_eq_false_iff_ne, bne_eq_false_iff_eq, ne_eq, Decidable.not_not] at hb
      first | rw [if_pos hb5] at h | rw [if_neg (Bool.eq_false_iff.1 hb5)] at h | rw [if_pos hb] at h | rw [if_neg hb] at h | (simp only [hb, Bool.not_false, Bool.not_true, Bool.false_eq_true, if_true, if_false, reduceIte] at h) | skip
      repeat (first | (rw [Option.ite_none_right_eq_some] at h; obtain ⟨_, h⟩ := h) | (rw [Option.ite_none_left_eq_some] at h; obtain ⟨_, h⟩ := h) | (simp only [Option.bind_some] at h))
      refine AWp.skip ?_
      refine AWp.seq ?_
      refine W.kp [0, 1, 2, 4, 5, 13] ?_
      refine Dt.reg [] [4] (.t 0 (.t 1 (.y 3 (.one 2 (.last 4 (.y 5 (.y 6 (.y 7 (.y 8 .done))))))))) HM ?_
      refine Dt.T rfl wantN (D.ldN Try.underlying28 Y28) ?_
      refine Dt.T rfl wantN (D.ldN Try.underlying28 Y28) ?_
      refine Dt.Y rfl wantN Y.mv ?_
      refine Dt.O (g' := false) rfl wantN ?_
      repeat (first | (rw [Option.ite_none_right_eq_some] at h; obtain ⟨_, h⟩ := h) | (rw [Option.ite_none_left_eq_some] at h; obtain ⟨_, h⟩ := h) | (simp only [Option.bind_some] at h))
      obtain ⟨t178, hc6, h⟩ := Option.bind_eq_some_iff.1 h
      repeat (first | (rw [Option.ite_none_right_eq_some] at h; obtain ⟨_, h⟩ := h) | (rw [Option.ite_none_left_eq_some] at h; obtain ⟨_, h⟩ := h) | (simp only [Option.bind_some] at h))
      refine Ox.C true [] Try.func42 (spec_feEmpty.ac _ _ _ _ _ hc6) .nil ?_
      refine Dt.L rfl wantN ?_
      repeat (first | (rw [Option.ite_none_right_eq_some] at h; obtain ⟨_, h⟩ := h) | (rw [Option.ite_none_left_eq_some] at h; obtain ⟨_, h⟩ := h) | (simp only [Option.bind_some] at h))
      obtain ⟨⟨t181, t184⟩, hc7, h⟩ := Option.bind_eq_some_iff.1 h
      dsimp only at h
      repeat (first | (rw [Option.ite_none_right_eq_some] at h; obtain ⟨_, h⟩ := h) | (rw [Option.ite_none_left_eq_some] at h; obtain ⟨_, h⟩ := h) | (simp only [Option.bind_some] at h))
      refine C.nil 3 1 ?_
      refine C.callE (l := true) [2] Try.func41 (spec_feSplit.ac _ _ _ _ _ _ _ _ _ hc7) (H.c .nil) ?_
      refine Du.Y rfl wantN Y.ex ?_
      refine Du.Y rfl wantN Y.ex ?_
      refine Du.Y rfl wantN Y.asg ?_
      refine Du.Y rfl wantN Y.asg ?_
      refine Du.nil ?_
      repeat (first | (rw [Option.ite_none_right_eq_some] at h; obtain ⟨_, h⟩ := h) | (rw [Option.ite_none_left_eq_some] at h; obtain ⟨_, h⟩ := h) | (simp only [Option.bind_some] at h))
      simp only [Option.some.injEq, Prod.mk.injEq] at h
      obtain ⟨rfl, rfl⟩ := h
      refine AWp.ret ?_
      exact ⟨.inr rfl, [(4, _), (5, _)], _, ⟨rfl, rfl⟩, IsPart.at [] [3] base0 (H.c .nil) (E.c (E.c .nil))⟩

/-! ### impl_within: function 47 -/
def impl_within.f (a0 : Int) (a1 : Int) (a2 : Int) : Option (Bool) := if a0 ≥ a1 then (some (decide (a0 ≤ a2))) else (some false)
set_option maxRecDepth 100000 in
set_option maxHeartbeats 20000000 in
theorem impl_within.ac (a0 : Int) (a1 : Int) (a2 : Int) (r : Bool) (h : impl_within.f a0 a1 a2 = some r) :
    ACalls Try.prog 47 [.lit (.int .i64 a0), .lit (.int .i64 a1), .lit (.int .i64 a2)] [] (fun v H' => v = .lit (.bool r) ∧ H' = []) := by
  refine ACalls.ofP [6] Try.func47 rfl (by exact Nat.le_of_ble_eq_true rfl) rfl (by decide) ?_
  simp only [Try.ntmps47, env0, impl_within.f] at h ⊢
  repeat (first | (rw [Option.ite_none_right_eq_some] at h; obtain ⟨_, h⟩ := h) | (rw [Option.ite_none_left_eq_some] at h; obtain ⟨_, h⟩ := h) | (simp only [Option.bind_some] at h))
  refine AWp.seq ?_
  refine AWp.region ?_
  refine L.Y Y.asg ?_
  refine AList.nil ?_
  refine AWp.seq ?_
  refine AWp.region ?_
  refine L.Y Y.mv ?_
  refine L.Y Y.mv ?_
  refine L.Y Y.bin ?_
  refine L.Y Y.mv ?_
  refine L.Gc (fun hb => ?_) (fun hb => ?_)
  · have hb1 := hb
    try simp only [decide_eq_true_eq, decide_eq_false_iff_not, Bool.not_eq_true', Bool.not_eq_false', Bool.not_eq_true, Bool.not_eq_false, beq_iff_eq, bne_iff_ne, beq_eq_false_iff_ne, bne_eq_false_iff_eq, ne_eq, Decidable.not_not] at hb
    first | rw [if_pos hb1] at h | rw [if_neg (Bool.eq_false_iff.1 hb1)] at h | rw [if_pos hb] at h | rw [if_neg hb] at h | (simp only [hb, Bool.not_false, Bool.not_true, Bool.false_eq_true, if_true, if_false, reduceIte] at h) | skip
    repeat (first | (rw [Option.ite_none_right_eq_some] at h; obtain ⟨_, h⟩ := h) | (rw [Option.ite_none_left_eq_some] at h; obtain ⟨_, h⟩ := h) | (simp only [Option.bind_some] at h))
    refine L.Gy hb1 Y.mv ?_
    refine L.Gy hb1 Y.mv ?_
    refine L.Gy hb1 Y.bin ?_
    refine L.Y (Y.pk (c := true) hb1) ?_
    refine L.Y Y.asg ?_
    refine AList.nil ?_
    repeat (first | (rw [Option.ite_none_right_eq_some] at h; obtain ⟨_, h⟩ := h) | (rw [Option.ite_none_left_eq_some] at h; obtain ⟨_, h⟩ := h) | (simp only [Option.bind_some] at h))
    obtain rfl := Option.some.inj h
    refine AWp.ret ?_
    exact ⟨.inr rfl, [(6, _)], _, ⟨rfl, rfl⟩, IsPart.at [] [] base0 .nil (E.c .nil)⟩
  · have hb1 := hb
    try simp only [decide_eq_true_eq, decide_eq_false_iff_not, Bool.not_eq_true', Bool.not_eq_false', Bool.not_eq_true, Bool.not_eq_false, beq_iff_eq, bne_iff_ne, beq_eq_false_iff_ne, bne_eq_false_iff_eq, ne_eq, Decidable.not_not] at hb
    first | rw [if_pos hb1] at h | rw [if_neg (Bool.eq_false_iff.1 hb1)] at h | rw [if_pos hb] at h | rw [if_neg hb] at h | (simp only [hb, Bool.not_false, Bool.not_true, Bool.false_eq_true, if_true, if_false, reduceIte] at h) | skip
    repeat (first | (rw [Option.ite_none_right_eq_some] at h; obtain ⟨_, h⟩ := h) | (rw [Option.ite_none_left_eq_some] at h; obtain ⟨_, h⟩ := h) | (simp only [Option.bind_some] at h))
    refine L.Gn hb1 ?_
    refine L.Gn hb1 ?_
    refine L.Gn hb1 ?_
    refine L.Y (Y.pk (c := false) hb1) ?_
    refine L.Y Y.asg ?_
    refine AList.nil ?_
    repeat (first | (rw [Option.ite_none_right_eq_some] at h; obtain ⟨_, h⟩ := h) | (rw [Option.ite_none_left_eq_some] at h; obtain ⟨_, h⟩ := h) | (simp only [Option.bind_some] at h))
    obtain rfl := Option.some.inj h
    refine AWp.ret ?_
    exact ⟨.inr rfl, [(6, _)], _, ⟨rfl, rfl⟩, IsPart.at [] [] base0 .nil (E.c .nil)⟩

/-! ### impl_allWithin: function 73 -/
def impl_allWithin.l0 : Nat → Int → Int → List Int → Int → Int → Option (Bool)
  | 0, _, _, _, _, _ => none
  | k + 1, x1, x2, x9, x10, x11 => if x11 < x10 then (if 0 ≤ x11 then (if x11 < (x9.length : Int) then ((impl_within.f (rd x9 x11) x1 x2).bind fun t186 => (if t186 = true then (impl_allWithin.l0 k x1 x2 x9 x10 (wrap64 (x11 + 1))) else (some false))) else (none)) else (none)) else (some true)
def impl_allWithin.f (k : Nat) (l0 : List Int) (a1 : Int) (a2 : Int) : Option (Bool) := impl_allWithin.l0 k a1 a2 l0 (l0.length : Int) 0
theorem impl_allWithin.mono_l : ∀ k, (∀ y0 y1 y2 y3 y4, LeO (impl_allWithin.l0 k y0 y1 y2 y3 y4) (impl_allWithin.l0 (k + 1) y0 y1 y2 y3 y4))
  | 0 => fun _ _ _ _ _ r h => by simp [impl_allWithin.l0] at h
  | k + 1 => by
    have ih0 := impl_allWithin.mono_l k
    · intro y0 y1 y2 y3 y4
      unfold impl_allWithin.l0
      repeat' first
      | (with_reducible exact ih0 _ _ _ _ _)
      | (with_reducible exact LeO.refl _)
      | (with_reducible exact LeO.none _)
      | (with_reducible refine LeO.ite ?_ ?_)
      | (with_reducible refine LeO.bind ?_ (fun _ => ?_))
      | exact ih0 _ _ _ _ _
      | exact LeO.none _
      | refine LeO.ite ?_ ?_
      | refine LeO.bind ?_ (fun _ => ?_)
theorem impl_allWithin.mono : ∀ a0 a1 a2 k, LeO (impl_allWithin.f k a0 a1 a2) (impl_allWithin.f (k + 1) a0 a1 a2) := by
  intro a0 a1 a2 k
  have ih0 := impl_allWithin.mono_l k
  unfold impl_allWithin.f
  repeat' first
      | (with_reducible exact ih0 _ _ _ _ _)
      | (with_reducible exact LeO.refl _)
      | (with_reducible exact LeO.none _)
      | (with_reducible refine LeO.ite ?_ ?_)
      | (with_reducible refine LeO.bind ?_ (fun _ => ?_))
      | exact ih0 _ _ _ _ _
      | exact LeO.none _
      | refine LeO.ite ?_ ?_
      | refine LeO.bind ?_ (fun _ => ?_)
set_option maxRecDepth 100000 in
set_option maxHeartbeats 20000000 in
theorem impl_allWithin.ac (k : Nat) (l0 : List Int) (a1 : Int) (a2 : Int) (r : Bool) (h : impl_allWithin.f k l0 a1 a2 = some r) :
    ACalls Try.prog 73 [.row 1 l0.length false (ints .i64 l0), .lit (.int .i64 a1), .lit (.int .i64 a2)] [] (fun v H' => v = .lit (.bool r) ∧ H' = []) := by
  refine ACalls.ofP [6] Try.func73 rfl (by exact Nat.le_of_ble_eq_true rfl) rfl (by decide) ?_
  simp only [Try.ntmps73, env0, impl_allWithin.f] at h ⊢
  repeat (first | (rw [Option.ite_none_right_eq_some] at h; obtain ⟨_, h⟩ := h) | (rw [Option.ite_none_left_eq_some] at h; obtain ⟨_, h⟩ := h) | (simp only [Option.bind_some] at h))
  refine AWp.seq ?_
  refine AWp.region ?_
  refine L.Y Y.asg ?_
  refine AList.nil ?_
  refine AWp.seq ?_
  refine AWp.seq ?_
  refine AWp.region ?_
  refine L.Y Y.mv ?_
  refine L.Y (Y.ln Try.underlying22) ?_
  refine L.Y Y.mv ?_
  refine AList.nil ?_
  refine AWp.block ?_
  repeat (first | (rw [Option.ite_none_right_eq_some] at h; obtain ⟨_, h⟩ := h) | (rw [Option.ite_none_left_eq_some] at h; obtain ⟨_, h⟩ := h) | (simp only [Option.bind_some] at h))
  refine AWp.loopI (fun kk e H => kk ≤ k ∧ ∃ (x1 : Int) (x2 : Int) (x10 : Int) (x11 : Int), e = [(1, .lit (.int .i64 x1)), (2, .lit (.int .i64 x2)), (9, .row 1 l0.length false (ints .i64 l0)), (10, .lit (.int .i64 x10)), (11, .lit (.int .i64 x11))] ∧ H = [] ∧ impl_allWithin.l0 kk x1 x2 l0 x10 x11 = some r) (k := k)
    ⟨_, _, ⟨Nat.le_refl _, _, _, _, _, rfl, rfl, h⟩, IsPart.at [] [] base0 .nil (E.c (E.c (E.c (E.c (E.c .nil)))))⟩ ?_
  clear h
  rintro k1 e H ⟨hk2, x1, x2, x10, x11, rfl, rfl, h⟩
  cases k1 with
  | zero => exact absurd h (by simp [impl_allWithin.l0])
  | succ k1 =>
  simp only [impl_allWithin.l0] at h
  repeat (first | (rw [Option.ite_none_right_eq_some] at h; obtain ⟨_, h⟩ := h) | (rw [Option.ite_none_left_eq_some] at h; obtain ⟨_, h⟩ := h) | (simp only [Option.bind_some] at h))
  refine AWp.seq ?_
  refine AWp.region ?_
  refine L.Y Y.bin ?_
  refine AList.nil ?_
  refine AWp.seq ?_
  refine W.cond (fun hb => ?_) (fun hb => ?_)
  · have hb3 := hb
    try simp only [decide_eq_true_eq, decide_eq_false_iff_not, Bool.not_eq_true', Bool.not_eq_false', Bool.not_eq_true, Bool.not_eq_false, beq_iff_eq, bne_iff_ne, beq_eq_false_iff_ne, bne_eq_false_iff_eq, ne_eq, Decidable.not_not] at hb
    first | rw [if_pos hb3] at h | rw [if_neg (Bool.eq_false_iff.1 hb3)] at h | rw [if_pos hb] at h | rw [if_neg hb] at h | (simp only [hb, Bool.not_false, Bool.not_true, Bool.false_eq_true, if_true, if_false, reduceIte] at h) | skip
    repeat (first | (rw [Option.ite_none_right_eq_some] at h; obtain ⟨_, h⟩ := h) | (rw [Option.ite_none_left_eq_some] at h; obtain ⟨_, h⟩ := h) | (simp only [Option.bind_some] at h))
    refine AWp.skip ?_
    refine AWp.seq ?_
    refine AWp.block ?_
    refine AWp.seq ?_
    refine AWp.region ?_
    refine L.Y (Y.ixr Try.underlying22 Y3) ?_
    refine L.S (S.ld Try.underlying3) ?_
    refine L.Y Y.asg ?_
    refine AList.nil ?_
    refine AWp.seq ?_
    refine AWp.region ?_
    refine L.Y Y.mv ?_
    refine L.Y Y.mv ?_
    refine L.Y Y.mv ?_
    repeat (first | (rw [Option.ite_none_right_eq_some] at h; obtain ⟨_, h⟩ := h) | (rw [Option.ite_none_left_eq_some] at h; obtain ⟨_, h⟩ := h) | (simp only [Option.bind_some] at h))
    obtain ⟨t186, hc4, h⟩ := Option.bind_eq_some_iff.1 h
    repeat (first | (rw [Option.ite_none_right_eq_some] at h; obtain ⟨_, h⟩ := h) | (rw [Option.ite_none_left_eq_some] at h; obtain ⟨_, h⟩ := h) | (simp only [Option.bind_some] at h))
    refine L.C (C.callE (l := true) [] Try.func47 (impl_within.ac _ _ _ _ hc4) .nil ?_)
    refine L.Y Y.nt ?_
    refine AList.nil ?_
    refine W.cond (fun hb => ?_) (fun hb => ?_)
    · have hb5 := hb
      try simp only [decide_eq_true_eq, decide_eq_false_iff_not, Bool.not_eq_true', Bool.not_eq_false', Bool.not_eq_true, Bool.not_eq_false, beq_iff_eq, bne_iff_ne, beq_eq_false_iff_ne, bne_eq_false_iff_eq, ne_eq, Decidable.not_not] at hb
      first | rw [if_pos hb5] at h | rw [if_neg (Bool.eq_false_iff.1 hb5)] at h | rw [if_pos hb] at h | rw [if_neg hb] at h | (simp only [hb, Bool.not_false, Bool.not_true, Bool.false_eq_true, if_true, if_false, reduceIte] at h) | skip
      repeat (first | (rw [Option.ite_none_right_eq_some] at h; obtain ⟨_, h⟩ := h) | (rw [Option.ite_none_left_eq_some] at h; obtain ⟨_, h⟩ := h) | (simp only [Option.bind_some] at h))
      refine AWp.seq ?_
      refine W.kp [1, 2, 8, 9, 10, 11, 12, 19] ?_
      refine AWp.region ?_
      refine L.Y Y.asg ?_
      refine AList.nil ?_
      repeat (first | (rw [Option.ite_none_right_eq_some] at h; obtain ⟨_, h⟩ := h) | (rw [Option.ite_none_left_eq_some] at h; obtain ⟨_, h⟩ := h) | (simp only [Option.bind_some] at h))
      obtain rfl := Option.some.inj h
      refine AWp.ret ?_
      exact ⟨.inr rfl, [(6, _)], _, ⟨rfl, rfl⟩, IsPart.at [] [] base0 .nil (E.c .nil)⟩
    · have hb5 := hb
      try simp only [decide_eq_true_eq, decide_eq_false_iff_not, Bool.not_eq_true', Bool.not_eq_false', Bool.not_eq_true, Bool.not_eq_false, beq_iff_eq, bne_iff_ne, beq_eq_false_iff_ne, bne_eq_false_iff_eq, ne_eq, Decidable.not_not] at hb
      first | rw [if_pos hb5] at h | rw [if_neg (Bool.eq_false_iff.1 hb5)] at h | rw [if_pos hb] at h | rw [if_neg hb] at h | (simp only [hb, Bool.not_false, Bool.not_true, Bool.false_eq_true, if_true, if_false, reduceIte] at h) | skip
      repeat (first | (rw [Option.ite_none_right_eq_some] at h; obtain ⟨_, h⟩ := h) | (rw [Option.ite_none_left_eq_some] at h; obtain ⟨_, h⟩ := h) | (simp only [Option.bind_some] at h))
      refine AWp.skip ?_
      refine W.kp [1, 2, 8, 9, 10, 11, 12, 19] ?_
      refine AWp.region ?_
      refine L.Y Y.bin ?_
      refine L.Y Y.mv ?_
      refine AList.nil ?_
      repeat (first | (rw [Option.ite_none_right_eq_some] at h; obtain ⟨_, h⟩ := h) | (rw [Option.ite_none_left_eq_some] at h; obtain ⟨_, h⟩ := h) | (simp only [Option.bind_some] at h))
      exact ⟨k1, by omega, _, _, ⟨by omega, _, _, _, _, rfl, rfl, h⟩, IsPart.at [] [] base0 .nil (E.c (E.c (E.c (E.c (E.c .nil)))))⟩
  · have hb3 := hb
    try simp only [decide_eq_true_eq, decide_eq_false_iff_not, Bool.not_eq_true', Bool.not_eq_false', Bool.not_eq_true, Bool.not_eq_false, beq_iff_eq, bne_iff_ne, beq_eq_false_iff_ne, bne_eq_false_iff_eq, ne_eq, Decidable.not_not] at hb
    first | rw [if_pos hb3] at h | rw [if_neg (Bool.eq_false_iff.1 hb3)] at h | rw [if_pos hb] at h | rw [if_neg hb] at h | (simp only [hb, Bool.not_false, Bool.not_true, Bool.false_eq_true, if_true, if_false, reduceIte] at h) | skip
    repeat (first | (rw [Option.ite_none_right_eq_some] at h; obtain ⟨_, h⟩ := h) | (rw [Option.ite_none_left_eq_some] at h; obtain ⟨_, h⟩ := h) | (simp only [Option.bind_some] at h))
    refine AWp.exit ?_
    refine AWp.seq ?_
    refine AWp.region ?_
    refine L.Y Y.asg ?_
    refine AList.nil ?_
    repeat (first | (rw [Option.ite_none_right_eq_some] at h; obtain ⟨_, h⟩ := h) | (rw [Option.ite_none_left_eq_some] at h; obtain ⟨_, h⟩ := h) | (simp only [Option.bind_some] at h))
    obtain rfl := Option.some.inj h
    refine AWp.ret ?_
    exact ⟨.inr rfl, [(6, _)], _, ⟨rfl, rfl⟩, IsPart.at [] [] base0 .nil (E.c .nil)⟩

/-! ### impl_IsTable: function 52 -/
def impl_IsTable.f (k : Nat) (a0_0 : Int) (a0_1 : Int) (l0_2 : List Int) : Option (Bool) := (impl_within.f a0_0 1 6).bind fun t188 => (if t188 = true then ((impl_within.f a0_1 1 6).bind fun t189 => (if t189 = true then (if (l0_2.length : Int) = a0_0 then (if 0 ≤ a0_1 then ((impl_allWithin.f k l0_2 0 (wrap64 ((shl .i64 1 a0_1) - 1))).bind fun t190 => (some t190)) else (none)) else (some false)) else (some false))) else (some false))
theorem impl_IsTable.mono : ∀ a0 a1 a2 k, LeO (impl_IsTable.f k a0 a1 a2) (impl_IsTable.f (k + 1) a0 a1 a2) := by
  intro a0 a1 a2 k
  unfold impl_IsTable.f
  repeat' first
      | (with_reducible exact impl_allWithin.mono _ _ _ _)
      | (with_reducible exact LeO.refl _)
      | (with_reducible exact LeO.none _)
      | (with_reducible refine LeO.ite ?_ ?_)
      | (with_reducible refine LeO.bind ?_ (fun _ => ?_))
      | exact impl_allWithin.mono _ _ _ _
      | exact LeO.none _
      | refine LeO.ite ?_ ?_
      | refine LeO.bind ?_ (fun _ => ?_)
set_option maxRecDepth 100000 in
set_option maxHeartbeats 20000000 in
theorem impl_IsTable.ac (k : Nat) (a0_0 : Int) (a0_1 : Int) (l0_2 : List Int) (r : Bool) (h : impl_IsTable.f k a0_0 a0_1 l0_2 = some r) :
    ACalls Try.prog 52 [.agg [.lit (.int .i64 a0_0), .lit (.int .i64 a0_1), .row 1 l0_2.length false (ints .i64 l0_2)]] [] (fun v H' => v = .lit (.bool r) ∧ H' = []) := by
  refine ACalls.ofP [2] Try.func52 rfl (by exact Nat.le_of_ble_eq_true rfl) rfl (by decide) ?_
  simp only [Try.ntmps52, env0, impl_IsTable.f] at h ⊢
  repeat (first | (rw [Option.ite_none_right_eq_some] at h; obtain ⟨_, h⟩ := h) | (rw [Option.ite_none_left_eq_some] at h; obtain ⟨_, h⟩ := h) | (simp only [Option.bind_some] at h))
  refine AWp.seq ?_
  refine AWp.region ?_
  refine L.M M.bx ?_
  refine L.Y Y.asg ?_
  refine AList.nil ?_
  refine AWp.seq ?_
  refine Dt.reg [] [] (.y 0 (.t 1 (.one 2 (.y 3 (.y 4 (.t 5 (.one 6 (.y 7 (.y 8 (.y 9 (.t 10 (.y 11 (.y 12 (.t 13 (.y 14 (.y 15 (.y 16 (.y 17 (.t 18 (.y 19 (.t 20 (.y 21 (.y 22 (.one 23 (.y 24 (.y 25 .done)))))))))))))))))))))))))) HM ?_
  refine Dt.Y rfl wantN (Y.fa (off := 0) Try.underlying28 Y3) ?_
  refine Dt.T rfl wantN (D.ld Try.underlying3) ?_
  refine Dt.O (g' := false) rfl wantN ?_
  repeat (first | (rw [Option.ite_none_right_eq_some] at h; obtain ⟨_, h⟩ := h) | (rw [Option.ite_none_left_eq_some] at h; obtain ⟨_, h⟩ := h) | (simp only [Option.bind_some] at h))
  obtain ⟨t188, hc1, h⟩ := Option.bind_eq_some_iff.1 h
  repeat (first | (rw [Option.ite_none_right_eq_some] at h; obtain ⟨_, h⟩ := h) | (rw [Option.ite_none_left_eq_some] at h; obtain ⟨_, h⟩ := h) | (simp only [Option.bind_some] at h))
  refine Ox.C true [] Try.func47 (impl_within.ac _ _ _ _ hc1) .nil ?_
  refine Dt.Y rfl wantN Y.mv ?_
  refine Dt.F 6 (fun hb => ?_) (fun hb => ?_)
  · have hb2 := hb
    try simp only [decide_eq_true_eq, decide_eq_false_iff_not, Bool.not_eq_true', Bool.not_eq_false', Bool.not_eq_true, Bool.not_eq_false, beq_iff_eq, bne_iff_ne, beq_eq_false_iff_ne, bne_eq_false_iff_eq, ne_eq, Decidable.not_not] at hb
    first | rw [if_pos hb2] at h | rw [if_neg (Bool.eq_false_iff.1 hb2)] at h | rw [if_pos hb] at h | rw [if_neg hb] at h | (simp only [hb, Bool.not_false, Bool.not_true, Bool.false_eq_true, if_true, if_false, reduceIte] at h) | skip
    repeat (first | (rw [Option.ite_none_right_eq_some] at h; obtain ⟨_, h⟩ := h) | (rw [Option.ite_none_left_eq_some] at h; obtain ⟨_, h⟩ := h) | (simp only [Option.bind_some] at h))
    refine Dt.Y rfl (wantY hb2) (Y.fa (off := 1) Try.underlying28 Y3) ?_
    refine Dt.T rfl (wantY hb2) (D.ld Try.underlying3) ?_
    refine Dt.O (g' := false) rfl (wantY hb2) ?_
    repeat (first | (rw [Option.ite_none_right_eq_some] at h; obtain ⟨_, h⟩ := h) | (rw [Option.ite_none_left_eq_some] at h; obtain ⟨_, h⟩ := h) | (simp only [Option.bind_some] at h))
    obtain ⟨t189, hc3, h⟩ := Option.bind_eq_some_iff.1 h
    repeat (first | (rw [Option.ite_none_right_eq_some] at h; obtain ⟨_, h⟩ := h) | (rw [Option.ite_none_left_eq_some] at h; obtain ⟨_, h⟩ := h) | (simp only [Option.bind_some] at h))
    refine Ox.C true [] Try.func47 (impl_within.ac _ _ _ _ hc3) .nil ?_
    refine Dt.Y rfl wantN (Y.pk (c := true) hb2) ?_
    refine Dt.Y rfl wantN Y.mv ?_
    refine Dt.F 11 (fun hb => ?_) (fun hb => ?_)
    · have hb4 := hb
      try simp only [decide_eq_true_eq, decide_eq_false_iff_not, Bool.not_eq_true', Bool.not_eq_false', Bool.not_eq_true, Bool.not_eq_false, beq_iff_eq, bne_iff_ne, beq_eq_false_iff_ne, bne_eq_false_iff_eq, ne_eq, Decidable.not_not] at hb
      first | rw [if_pos hb4] at h | rw [if_neg (Bool.eq_false_iff.1 hb4)] at h | rw [if_pos hb] at h | rw [if_neg hb] at h | (simp only [hb, Bool.not_false, Bool.not_true, Bool.false_eq_true, if_true, if_false, reduceIte] at h) | skip
      repeat (first | (rw [Option.ite_none_right_eq_some] at h; obtain ⟨_, h⟩ := h) | (rw [Option.ite_none_left_eq_some] at h; obtain ⟨_, h⟩ := h) | (simp only [Option.bind_some] at h))
      refine Dt.Y rfl (wantY hb4) (Y.fa (off := 2) Try.underlying28 Y22) ?_
      refine Dt.T rfl (wantY hb4) (D.ld Try.underlying22) ?_
      refine Dt.Y rfl (wantY hb4) (Y.ln Try.underlying22) ?_
      refine Dt.Y rfl (wantY hb4) (Y.fa (off := 0) Try.underlying28 Y3) ?_
      refine Dt.T rfl (wantY hb4) (D.ld Try.underlying3) ?_
      refine Dt.Y rfl (wantY hb4) Y.bin ?_
      refine Dt.Y rfl wantN (Y.pk (c := true) hb4) ?_
      refine Dt.Y rfl wantN Y.mv ?_
      refine Dt.F 19 (fun hb => ?_) (fun hb => ?_)
      · have hb5 := hb
        try simp only [decide_eq_true_eq, decide_eq_false_iff_not, Bool.not_eq_true', Bool.not_eq_false', Bool.not_eq_true, Bool.not_eq_false, beq_iff_eq, bne_iff_ne, beq_eq_false_iff_ne, bne_eq_false_iff_eq, ne_eq, Decidable.not_not] at hb
        first | rw [if_pos hb5] at h | rw [if_neg (Bool.eq_false_iff.1 hb5)] at h | rw [if_pos hb] at h | rw [if_neg hb] at h | (simp only [hb, Bool.not_false, Bool.not_true, Bool.false_eq_true, if_true, if_false, reduceIte] at h) | skip
        repeat (first | (rw [Option.ite_none_right_eq_some] at h; obtain ⟨_, h⟩ := h) | (rw [Option.ite_none_left_eq_some] at h; obtain ⟨_, h⟩ := h) | (simp only [Option.bind_some] at h))
        refine Dt.Y rfl (wantY hb5) (Y.fa (off := 2) Try.underlying28 Y22) ?_
        refine Dt.T rfl (wantY hb5) (D.ld Try.underlying22) ?_
        refine Dt.Y rfl (wantY hb5) (Y.fa (off := 1) Try.underlying28 Y3) ?_
        refine Dt.T rfl (wantY hb5) (D.ld Try.underlying3) ?_
        refine Dt.Y rfl (wantY hb5) Y.bin ?_
        refine Dt.Y rfl (wantY hb5) Y.bin ?_
        refine Dt.O (g' := false) rfl (wantY hb5) ?_
        repeat (first | (rw [Option.ite_none_right_eq_some] at h; obtain ⟨_, h⟩ := h) | (rw [Option.ite_none_left_eq_some] at h; obtain ⟨_, h⟩ := h) | (simp only [Option.bind_some] at h))
        obtain ⟨t190, hc6, h⟩ := Option.bind_eq_some_iff.1 h
        repeat (first | (rw [Option.ite_none_right_eq_some] at h; obtain ⟨_, h⟩ := h) | (rw [Option.ite_none_left_eq_some] at h; obtain ⟨_, h⟩ := h) | (simp only [Option.bind_some] at h))
        refine Ox.C true [] Try.func73 (impl_allWithin.ac _ _ _ _ _ hc6) .nil ?_
        refine Dt.Y rfl wantN (Y.pk (c := true) hb5) ?_
        refine Dt.Y rfl wantN Y.asg ?_
        refine Dt.nil ?_
        repeat (first | (rw [Option.ite_none_right_eq_some] at h; obtain ⟨_, h⟩ := h) | (rw [Option.ite_none_left_eq_some] at h; obtain ⟨_, h⟩ := h) | (simp only [Option.bind_some] at h))
        obtain rfl := Option.some.inj h
        refine AWp.ret ?_
        exact ⟨.inr rfl, [(2, _)], _, ⟨rfl, rfl⟩, IsPart.at [] [] base0 .nil (E.c .nil)⟩
      · have hb5 := hb
        try simp only [decide_eq_true_eq, decide_eq_false_iff_not, Bool.not_eq_true', Bool.not_eq_false', Bool.not_eq_true, Bool.not_eq_false, beq_iff_eq, bne_iff_ne, beq_eq_false_iff_ne, bne_eq_false_iff_eq, ne_eq, Decidable.not_not] at hb
        first | rw [if_pos hb5] at h | rw [if_neg (Bool.eq_false_iff.1 hb5)] at h | rw [if_pos hb] at h | rw [if_neg hb] at h | (simp only [hb, Bool.not_false, Bool.not_true, Bool.false_eq_true, if_true, if_false, reduceIte] at h) | skip
        repeat (first | (rw [Option.ite_none_right_eq_some] at h; obtain ⟨_, h⟩ := h) | (rw [Option.ite_none_left_eq_some] at h; obtain ⟨_, h⟩ := h) | (simp only [Option.bind_some] at h))
        refine Dt.No rfl (wantZ hb5) ?_
        refine Dt.Nt rfl (wantZ hb5) ?_
        refine Dt.No rfl (wantZ hb5) ?_
        refine Dt.Nt rfl (wantZ hb5) ?_
        refine Dt.No rfl (wantZ hb5) ?_
        refine Dt.No rfl (wantZ hb5) ?_
        refine Dt.Po rfl (wantZ hb5) ?_
        refine Dt.Y rfl wantN (Y.pk (c := false) hb5) ?_
        refine Dt.Y rfl wantN Y.asg ?_
        refine Dt.nil ?_
        repeat (first | (rw [Option.ite_none_right_eq_some] at h; obtain ⟨_, h⟩ := h) | (rw [Option.ite_none_left_eq_some] at h; obtain ⟨_, h⟩ := h) | (simp only [Option.bind_some] at h))
        obtain rfl := Option.some.inj h
        refine AWp.ret ?_
        exact ⟨.inr rfl, [(2, _)], _, ⟨rfl, rfl⟩, IsPart.at [] [] base0 .nil (E.c .nil)⟩
    · have hb4 := hb
      try simp only [decide_eq_true_eq, decide_eq_false_iff_not, Bool.not_eq_true', Bool.not_eq_false', Bool.not_eq_true, Bool.not_eq_false, beq_iff_eq, bne_iff_ne, beq_eq_false_iff_ne, bne_eq_false_iff_eq, ne_eq, Decidable.not_not] at hb
      first | rw [if_pos hb4] at h | rw [if_neg (Bool.eq_false_iff.1 hb4)] at h | rw [if_pos hb] at h | rw [if_neg hb] at h | (simp only [hb, Bool.not_false, Bool.not_true, Bool.false_eq_true, if_true, if_false, reduceIte] at h) | skip
      repeat (first | (rw [Option.ite_none_right_eq_some] at h; obtain ⟨_, h⟩ := h) | (rw [Option.ite_none_left_eq_some] at h; obtain ⟨_, h⟩ := h) | (simp only [Option.bind_some] at h))
      refine Dt.No rfl (wantZ hb4) ?_
      refine Dt.Nt rfl (wantZ hb4) ?_
      refine Dt.No rfl (wantZ hb4) ?_
      refine Dt.No rfl (wantZ hb4) ?_
      refine Dt.Nt rfl (wantZ hb4) ?_
      refine Dt.No rfl (wantZ hb4) ?_
      refine Dt.Y rfl wantN (Y.pk (c := false) hb4) ?_
      refine Dt.Y rfl wantN Y.mv ?_
      refine Dt.F 19 (fun hb => ?_) (fun hb => ?_)
      · first | (cases hb; done) | contradiction | (simp_all; done) | (exfalso; (try simp only [decide_eq_true_eq, decide_eq_false_iff_not, Bool.not_eq_true', Bool.not_eq_false', Bool.not_eq_true, Bool.not_eq_false, beq_iff_eq, bne_iff_ne, beq_eq_false_iff_ne, bne_eq_false_iff_eq, ne_eq, Decidable.not_not] at hb); omega) | (exfalso; simp_all; omega)
      have hb7 := hb
      refine Dt.No rfl (wantZ hb7) ?_
      refine Dt.Nt rfl (wantZ hb7) ?_
      refine Dt.No rfl (wantZ hb7) ?_
      refine Dt.Nt rfl (wantZ hb7) ?_
      refine Dt.No rfl (wantZ hb7) ?_
      refine Dt.No rfl (wantZ hb7) ?_
      refine Dt.Po rfl (wantZ hb7) ?_
      refine Dt.Y rfl wantN (Y.pk (c := false) hb7) ?_
      refine Dt.Y rfl wantN Y.asg ?_
      refine Dt.nil ?_
      repeat (first | (rw [Option.ite_none_right_eq_some] at h; obtain ⟨_, h⟩ := h) | (rw [Option.ite_none_left_eq_some] at h; obtain ⟨_, h⟩ := h) | (simp only [Option.bind_some] at h))
      obtain rfl := Option.some.inj h
      refine AWp.ret ?_
      exact ⟨.inr rfl, [(2, _)], _, ⟨rfl, rfl⟩, IsPart.at [] [] base0 .nil (E.c .nil)⟩
  · have hb2 := hb
    try simp only [decide_eq_true_eq, decide_eq_false_iff_not, Bool.not_eq_true', Bool.not_eq_false', Bool.not_eq_true, Bool.not_eq_false, beq_iff_eq, bne_iff_ne, beq_eq_false_iff_ne, bne_eq_false_iff_eq, ne_eq, Decidable.not_not] at hb
    first | rw [if_pos hb2] at h | rw [if_neg (Bool.eq_false_iff.1 hb2)] at h | rw [if_pos hb] at h | rw [if_neg hb] at h | (simp only [hb, Bool.not_false, Bool.not_true, Bool.false_eq_true, if_true, if_false, reduceIte] at h) | skip
    repeat (first | (rw [Option.ite_none_right_eq_some] at h; obtain ⟨_, h⟩ := h) | (rw [Option.ite_none_left_eq_some] at h; obtain ⟨_, h⟩ := h) | (simp only [Option.bind_some] at h))
    refine Dt.No rfl (wantZ hb2) ?_
    refine Dt.Nt rfl (wantZ hb2) ?_
    refine Dt.Po rfl (wantZ hb2) ?_
    refine Dt.Y rfl wantN (Y.pk (c := false) hb2) ?_
    refine Dt.Y rfl wantN Y.mv ?_
    refine Dt.F 11 (fun hb => ?_) (fun hb => ?_)
    · first | (cases hb; done) | contradiction | (simp_all; done) | (exfalso; (try simp only [decide_eq_true_eq, decide_eq_false_iff_not, Bool.not_eq_true', Bool.not_eq_false', Bool.not_eq_true, Bool.not_eq_false, beq_iff_eq, bne_iff_ne, beq_eq_false_iff_ne, bne_eq_false_iff_eq, ne_eq, Decidable.not_not] at hb); omega) | (exfalso; simp_all; omega)
    have hb8 := hb
    refine Dt.No rfl (wantZ hb8) ?_
    refine Dt.Nt rfl (wantZ hb8) ?_
    refine Dt.No rfl (wantZ hb8) ?_
    refine Dt.No rfl (wantZ hb8) ?_
    refine Dt.Nt rfl (wantZ hb8) ?_
    refine Dt.No rfl (wantZ hb8) ?_
    refine Dt.Y rfl wantN (Y.pk (c := false) hb8) ?_
    refine Dt.Y rfl wantN Y.mv ?_
    refine Dt.F 19 (fun hb => ?_) (fun hb => ?_)
    · first | (cases hb; done) | contradiction | (simp_all; done) | (exfalso; (try simp only [decide_eq_true_eq, decide_eq_false_iff_not, Bool.not_eq_true', Bool.not_eq_false', Bool.not_eq_true, Bool.not_eq_false, beq_iff_eq, bne_iff_ne, beq_eq_false_iff_ne, bne_eq_false_iff_eq, ne_eq, Decidable.not_not] at hb); omega) | (exfalso; simp_all; omega)
    have hb9 := hb
    refine Dt.No rfl (wantZ hb9) ?_
    refine Dt.Nt rfl (wantZ hb9) ?_
    refine Dt.No rfl (wantZ hb9) ?_
    refine Dt.Nt rfl (wantZ hb9) ?_
    refine Dt.No rfl (wantZ hb9) ?_
    refine Dt.No rfl (wantZ hb9) ?_
    refine Dt.Po rfl (wantZ hb9) ?_
    refine Dt.Y rfl wantN (Y.pk (c := false) hb9) ?_
    refine Dt.Y rfl wantN Y.asg ?_
    refine Dt.nil ?_
    repeat (first | (rw [Option.ite_none_right_eq_some] at h; obtain ⟨_, h⟩ := h) | (rw [Option.ite_none_left_eq_some] at h; obtain ⟨_, h⟩ := h) | (simp only [Option.bind_some] at h))
    obtain rfl := Option.some.inj h
    refine AWp.ret ?_
    exact ⟨.inr rfl, [(2, _)], _, ⟨rfl, rfl⟩, IsPart.at [] [] base0 .nil (E.c .nil)⟩

/-! ### impl_Table_marked: function 60 -/
def impl_Table_marked.f (a0_0 : Int) (a0_1 : Int) (l0_2 : List Int) (a1 : Int) (a2 : Int) : Option (Bool) := if 0 ≤ a1 then (if a1 < (l0_2.length : Int) then (if 0 ≤ a2 then (some ((Go.bits .and .i64 (shr .i64 (rd l0_2 a1) a2) 1) == 1)) else (none)) else (none)) else (none)
set_option maxRecDepth 100000 in
set_option maxHeartbeats 20000000 in
theorem impl_Table_marked.ac (a0_0 : Int) (a0_1 : Int) (l0_2 : List Int) (a1 : Int) (a2 : Int) (r : Bool) (h : impl_Table_marked.f a0_0 a0_1 l0_2 a1 a2 = some r) :
    ACalls Try.prog 60 [.agg [.lit (.int .i64 a0_0), .lit (.int .i64 a0_1), .row 1 l0_2.length false (ints .i64 l0_2)], .lit (.int .i64 a1), .lit (.int .i64 a2)] [] (fun v H' => v = .lit (.bool r) ∧ H' = []) := by
  refine ACalls.ofP [6] Try.func60 rfl (by exact Nat.le_of_ble_eq_true rfl) rfl (by decide) ?_
  simp only [Try.ntmps60, env0, impl_Table_marked.f] at h ⊢
  repeat (first | (rw [Option.ite_none_right_eq_some] at h; obtain ⟨_, h⟩ := h) | (rw [Option.ite_none_left_eq_some] at h; obtain ⟨_, h⟩ := h) | (simp only [Option.bind_some] at h))
  refine AWp.seq ?_
  refine AWp.region ?_
  refine L.M M.bx ?_
  refine L.Y Y.asg ?_
  refine AList.nil ?_
  refine AWp.seq ?_
  refine AWp.region ?_
  refine L.Y (Y.fa (off := 2) Try.underlying28 Y22) ?_
  refine L.S (S.ld Try.underlying22) ?_
  refine L.Y Y.mv ?_
  refine L.Y (Y.ixr Try.underlying22 Y3) ?_
  refine L.S (S.ld Try.underlying3) ?_
  refine L.Y Y.mv ?_
  refine L.Y Y.bin ?_
  refine L.Y Y.bin ?_
  refine L.Y Y.bin ?_
  refine L.Y Y.asg ?_
  refine AList.nil ?_
  repeat (first | (rw [Option.ite_none_right_eq_some] at h; obtain ⟨_, h⟩ := h) | (rw [Option.ite_none_left_eq_some] at h; obtain ⟨_, h⟩ := h) | (simp only [Option.bind_some] at h))
  obtain rfl := Option.some.inj h
  refine AWp.ret ?_
  exact ⟨.inr rfl, [(6, _)], _, ⟨rfl, rfl⟩, IsPart.at [] [] base0 .nil (E.c .nil)⟩

end Go.Proofs.Ytpippjgphndjmaa.PFnExactSplitCells
