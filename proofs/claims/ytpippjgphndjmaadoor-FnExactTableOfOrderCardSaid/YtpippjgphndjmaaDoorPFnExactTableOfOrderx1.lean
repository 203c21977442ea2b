-- Written by a program of this session's (wip/myprint2): the functions by the kit's print, the walks by awgen.py. Lean checks it.
import Derived.Test.YtpippjgphndjmaaDoorPFnExactTableOfOrderx0
namespace Go.Proofs.YtpippjgphndjmaaDoor.PFnExactTableOfOrder
open Go.RowKit Go.Proofs.YtpippjgphndjmaaDoorW.PrintWords Go.Proofs.YtpippjgphndjmaaDoorW.PrintLast Go.Proofs.YtpippjgphndjmaaDoorW.PrintMore Go.Proofs.YtpippjgphndjmaaDoorM Go.Proofs.YtpippjgphndjmaaDoorA Go.Proofs.YtpippjgphndjmaaDoorT
attribute [local go_sem] max2_int min2_int max_two min_two max_three min_three max_four min_four   -- for this text's walks alone
set_option linter.unusedVariables false
set_option linter.unusedSimpArgs false

/-! ### laws_szIntS: function 63 -/
def laws_szIntS.f (l0 : List Int) (a1 : Int) : Option (Int) := if (wrap64 (a1 - (l0.length : Int))) < 0 then (some (-1)) else (some (wrap64 (a1 - (l0.length : Int))))
set_option maxRecDepth 100000 in
set_option maxHeartbeats 20000000 in
theorem laws_szIntS.ac (l0 : List Int) (a1 : Int) (r : Int) (h : laws_szIntS.f l0 a1 = some r) :
    ACalls Tryd.prog 63 [.row 1 l0.length false (ints .i64 l0), .lit (.int .i64 a1)] [] (fun v H' => v = .lit (.int .i64 r) ∧ H' = []) := by
  refine ACalls.ofP [4] Tryd.func63 rfl (by exact Nat.le_of_ble_eq_true rfl) rfl (by decide) ?_
  simp only [Tryd.ntmps63, env0, laws_szIntS.f] at h ⊢
  repeat (first | (rw [Option.ite_none_right_eq_some] at h; obtain ⟨_, h⟩ := h) | (rw [Option.ite_none_left_eq_some] at h; obtain ⟨_, h⟩ := h) | (simp only [Option.bind_some] at h))
  refine AWp.seq ?_
  refine AWp.region ?_
  refine L.Y Y.asg ?_
  refine AList.nil ?_
  refine AWp.seq ?_
  refine AWp.region ?_
  refine L.Y Y.mv ?_
  refine L.Y Y.mv ?_
  refine L.Y (Y.ln Tryd.underlying22) ?_
  refine L.Y Y.bin ?_
  refine L.Y Y.asg ?_
  refine AList.nil ?_
  refine AWp.seq ?_
  refine AWp.seq ?_
  refine AWp.region ?_
  refine L.Y Y.mv ?_
  refine L.Y Y.bin ?_
  refine AList.nil ?_
  refine W.cond (fun hb => ?_) (fun hb => ?_)
  · have hb1 := hb
    try simp only [decide_eq_true_eq, decide_eq_false_iff_not, Bool.not_eq_true', Bool.not_eq_false', Bool.not_eq_true, Bool.not_eq_false, beq_iff_eq, bne_iff_ne, beq_eq_false_iff_ne, bne_eq_false_iff_eq, ne_eq, Decidable.not_not] at hb
    first | rw [if_pos hb1] at h | rw [if_neg (Bool.eq_false_iff.1 hb1)] at h | rw [if_pos hb] at h | rw [if_neg hb] at h | (simp only [hb, Bool.not_false, Bool.not_true, Bool.false_eq_true, if_true, if_false, reduceIte] at h)
    repeat (first | (rw [Option.ite_none_right_eq_some] at h; obtain ⟨_, h⟩ := h) | (rw [Option.ite_none_left_eq_some] at h; obtain ⟨_, h⟩ := h) | (simp only [Option.bind_some] at h))
    refine AWp.seq ?_
    refine AWp.region ?_
    refine L.Y Y.asg ?_
    refine AList.nil ?_
    repeat (first | (rw [Option.ite_none_right_eq_some] at h; obtain ⟨_, h⟩ := h) | (rw [Option.ite_none_left_eq_some] at h; obtain ⟨_, h⟩ := h) | (simp only [Option.bind_some] at h))
    obtain rfl := Option.some.inj h
    refine AWp.ret ?_
    exact ⟨.inr rfl, [(4, _)], _, ⟨rfl, rfl⟩, IsPart.at [] [] base0 .nil (E.c .nil)⟩
  · have hb1 := hb
    try simp only [decide_eq_true_eq, decide_eq_false_iff_not, Bool.not_eq_true', Bool.not_eq_false', Bool.not_eq_true, Bool.not_eq_false, beq_iff_eq, bne_iff_ne, beq_eq_false_iff_ne, bne_eq_false_iff_eq, ne_eq, Decidable.not_not] at hb
    first | rw [if_pos hb1] at h | rw [if_neg (Bool.eq_false_iff.1 hb1)] at h | rw [if_pos hb] at h | rw [if_neg hb] at h | (simp only [hb, Bool.not_false, Bool.not_true, Bool.false_eq_true, if_true, if_false, reduceIte] at h)
    repeat (first | (rw [Option.ite_none_right_eq_some] at h; obtain ⟨_, h⟩ := h) | (rw [Option.ite_none_left_eq_some] at h; obtain ⟨_, h⟩ := h) | (simp only [Option.bind_some] at h))
    refine AWp.skip ?_
    refine AWp.seq ?_
    refine AWp.region ?_
    refine L.Y Y.mv ?_
    refine L.Y Y.asg ?_
    refine AList.nil ?_
    repeat (first | (rw [Option.ite_none_right_eq_some] at h; obtain ⟨_, h⟩ := h) | (rw [Option.ite_none_left_eq_some] at h; obtain ⟨_, h⟩ := h) | (simp only [Option.bind_some] at h))
    obtain rfl := Option.some.inj h
    refine AWp.ret ?_
    exact ⟨.inr rfl, [(4, _)], _, ⟨rfl, rfl⟩, IsPart.at [] [] base0 .nil (E.c .nil)⟩

/-! ### laws_szOrder: function 10 -/
def laws_szOrder.f (a0_0 : Int) (l0_1 : List Int) (a1 : Int) : Option (Int) := (laws_szIntS.f l0_1 a1).bind fun t102 => (if t102 < 0 then (some (-1)) else (some t102))
set_option maxRecDepth 100000 in
set_option maxHeartbeats 20000000 in
theorem laws_szOrder.ac (a0_0 : Int) (l0_1 : List Int) (a1 : Int) (r : Int) (h : laws_szOrder.f a0_0 l0_1 a1 = some r) :
    ACalls Tryd.prog 10 [.agg [.lit (.int .i64 a0_0), .row 1 l0_1.length false (ints .i64 l0_1)], .lit (.int .i64 a1)] [] (fun v H' => v = .lit (.int .i64 r) ∧ H' = []) := by
  refine ACalls.ofP [4] Tryd.func10 rfl (by exact Nat.le_of_ble_eq_true rfl) rfl (by decide) ?_
  simp only [Tryd.ntmps10, env0, laws_szOrder.f] at h ⊢
  repeat (first | (rw [Option.ite_none_right_eq_some] at h; obtain ⟨_, h⟩ := h) | (rw [Option.ite_none_left_eq_some] at h; obtain ⟨_, h⟩ := h) | (simp only [Option.bind_some] at h))
  refine AWp.seq ?_
  refine AWp.region ?_
  refine L.M M.bx ?_
  refine L.Y Y.asg ?_
  refine AList.nil ?_
  refine AWp.seq ?_
  refine AWp.region ?_
  refine L.Y (Y.fa (off := 1) Tryd.underlying24 Y22) ?_
  refine L.S (S.ld Tryd.underlying22) ?_
  refine L.Y Y.mv ?_
  repeat (first | (rw [Option.ite_none_right_eq_some] at h; obtain ⟨_, h⟩ := h) | (rw [Option.ite_none_left_eq_some] at h; obtain ⟨_, h⟩ := h) | (simp only [Option.bind_some] at h))
  obtain ⟨t102, hc1, h⟩ := Option.bind_eq_some_iff.1 h
  repeat (first | (rw [Option.ite_none_right_eq_some] at h; obtain ⟨_, h⟩ := h) | (rw [Option.ite_none_left_eq_some] at h; obtain ⟨_, h⟩ := h) | (simp only [Option.bind_some] at h))
  refine L.C (C.callE (l := true) [] Tryd.func63 (laws_szIntS.ac _ _ _ hc1) .nil ?_)
  refine L.Y Y.asg ?_
  refine AList.nil ?_
  refine AWp.seq ?_
  refine AWp.seq ?_
  refine AWp.region ?_
  refine L.Y Y.mv ?_
  refine L.Y Y.bin ?_
  refine AList.nil ?_
  refine W.cond (fun hb => ?_) (fun hb => ?_)
  · have hb2 := hb
    try simp only [decide_eq_true_eq, decide_eq_false_iff_not, Bool.not_eq_true', Bool.not_eq_false', Bool.not_eq_true, Bool.not_eq_false, beq_iff_eq, bne_iff_ne, beq_eq_false_iff_ne, bne_eq_false_iff_eq, ne_eq, Decidable.not_not] at hb
    first | rw [if_pos hb2] at h | rw [if_neg (Bool.eq_false_iff.1 hb2)] at h | rw [if_pos hb] at h | rw [if_neg hb] at h | (simp only [hb, Bool.not_false, Bool.not_true, Bool.false_eq_true, if_true, if_false, reduceIte] at h)
    repeat (first | (rw [Option.ite_none_right_eq_some] at h; obtain ⟨_, h⟩ := h) | (rw [Option.ite_none_left_eq_some] at h; obtain ⟨_, h⟩ := h) | (simp only [Option.bind_some] at h))
    refine AWp.seq ?_
    refine AWp.region ?_
    refine L.Y Y.asg ?_
    refine AList.nil ?_
    repeat (first | (rw [Option.ite_none_right_eq_some] at h; obtain ⟨_, h⟩ := h) | (rw [Option.ite_none_left_eq_some] at h; obtain ⟨_, h⟩ := h) | (simp only [Option.bind_some] at h))
    obtain rfl := Option.some.inj h
    refine AWp.ret ?_
    exact ⟨.inr rfl, [(4, _)], _, ⟨rfl, rfl⟩, IsPart.at [] [] base0 .nil (E.c .nil)⟩
  · have hb2 := hb
    try simp only [decide_eq_true_eq, decide_eq_false_iff_not, Bool.not_eq_true', Bool.not_eq_false', Bool.not_eq_true, Bool.not_eq_false, beq_iff_eq, bne_iff_ne, beq_eq_false_iff_ne, bne_eq_false_iff_eq, ne_eq, Decidable.not_not] at hb
    first | rw [if_pos hb2] at h | rw [if_neg (Bool.eq_false_iff.1 hb2)] at h | rw [if_pos hb] at h | rw [if_neg hb] at h | (simp only [hb, Bool.not_false, Bool.not_true, Bool.false_eq_true, if_true, if_false, reduceIte] at h)
    repeat (first | (rw [Option.ite_none_right_eq_some] at h; obtain ⟨_, h⟩ := h) | (rw [Option.ite_none_left_eq_some] at h; obtain ⟨_, h⟩ := h) | (simp only [Option.bind_some] at h))
    refine AWp.skip ?_
    refine AWp.seq ?_
    refine AWp.region ?_
    refine L.Y Y.mv ?_
    refine L.Y Y.asg ?_
    refine AList.nil ?_
    repeat (first | (rw [Option.ite_none_right_eq_some] at h; obtain ⟨_, h⟩ := h) | (rw [Option.ite_none_left_eq_some] at h; obtain ⟨_, h⟩ := h) | (simp only [Option.bind_some] at h))
    obtain rfl := Option.some.inj h
    refine AWp.ret ?_
    exact ⟨.inr rfl, [(4, _)], _, ⟨rfl, rfl⟩, IsPart.at [] [] base0 .nil (E.c .nil)⟩

/-! ### spec_orHas: function 67 -/
def spec_orHas.f (a0 : Int) (a1 : Int) : Option (Bool) := if 0 ≤ a1 then (some ((Int.tmod (shr .i64 a0 a1) 2) == 1)) else (none)
set_option maxRecDepth 100000 in
set_option maxHeartbeats 20000000 in
theorem spec_orHas.ac (a0 : Int) (a1 : Int) (r : Bool) (h : spec_orHas.f a0 a1 = some r) :
    ACalls Tryd.prog 67 [.lit (.int .i64 a0), .lit (.int .i64 a1)] [] (fun v H' => v = .lit (.bool r) ∧ H' = []) := by
  refine ACalls.ofP [4] Tryd.func67 rfl (by exact Nat.le_of_ble_eq_true rfl) rfl (by decide) ?_
  simp only [Tryd.ntmps67, env0, spec_orHas.f] at h ⊢
  repeat (first | (rw [Option.ite_none_right_eq_some] at h; obtain ⟨_, h⟩ := h) | (rw [Option.ite_none_left_eq_some] at h; obtain ⟨_, h⟩ := h) | (simp only [Option.bind_some] at h))
  refine AWp.seq ?_
  refine AWp.region ?_
  refine L.Y Y.asg ?_
  refine AList.nil ?_
  refine AWp.seq ?_
  refine AWp.region ?_
  refine L.Y Y.mv ?_
  refine L.Y Y.mv ?_
  refine L.Y Y.bin ?_
  refine L.Y Y.bin ?_
  refine L.Y Y.bin ?_
  refine L.Y Y.asg ?_
  refine AList.nil ?_
  repeat (first | (rw [Option.ite_none_right_eq_some] at h; obtain ⟨_, h⟩ := h) | (rw [Option.ite_none_left_eq_some] at h; obtain ⟨_, h⟩ := h) | (simp only [Option.bind_some] at h))
  obtain rfl := Option.some.inj h
  refine AWp.ret ?_
  exact ⟨.inr rfl, [(4, _)], _, ⟨rfl, rfl⟩, IsPart.at [] [] base0 .nil (E.c .nil)⟩

/-! ### spec_l1In: function 65 -/
def spec_l1In.f (a0 : Int) (a1 : Int) (a2 : Int) : Option (Bool) := if a0 ≥ a1 then (some (decide (a0 ≤ a2))) else (some false)
set_option maxRecDepth 100000 in
set_option maxHeartbeats 20000000 in
theorem spec_l1In.ac (a0 : Int) (a1 : Int) (a2 : Int) (r : Bool) (h : spec_l1In.f a0 a1 a2 = some r) :
    ACalls Tryd.prog 65 [.lit (.int .i64 a0), .lit (.int .i64 a1), .lit (.int .i64 a2)] [] (fun v H' => v = .lit (.bool r) ∧ H' = []) := by
  refine ACalls.ofP [6] Tryd.func65 rfl (by exact Nat.le_of_ble_eq_true rfl) rfl (by decide) ?_
  simp only [Tryd.ntmps65, env0, spec_l1In.f] at h ⊢
  repeat (first | (rw [Option.ite_none_right_eq_some] at h; obtain ⟨_, h⟩ := h) | (rw [Option.ite_none_left_eq_some] at h; obtain ⟨_, h⟩ := h) | (simp only [Option.bind_some] at h))
  refine AWp.seq ?_
  refine AWp.region ?_
  refine L.Y Y.asg ?_
  refine AList.nil ?_
  refine AWp.seq ?_
  refine AWp.region ?_
  refine L.Y Y.mv ?_
  refine L.Y Y.mv ?_
  refine L.Y Y.bin ?_
  refine L.Y Y.mv ?_
  refine L.Gc (fun hb => ?_) (fun hb => ?_)
  · have hb1 := hb
    try simp only [decide_eq_true_eq, decide_eq_false_iff_not, Bool.not_eq_true', Bool.not_eq_false', Bool.not_eq_true, Bool.not_eq_false, beq_iff_eq, bne_iff_ne, beq_eq_false_iff_ne, bne_eq_false_iff_eq, ne_eq, Decidable.not_not] at hb
    first | rw [if_pos hb1] at h | rw [if_neg (Bool.eq_false_iff.1 hb1)] at h | rw [if_pos hb] at h | rw [if_neg hb] at h | (simp only [hb, Bool.not_false, Bool.not_true, Bool.false_eq_true, if_true, if_false, reduceIte] at h)
    repeat (first | (rw [Option.ite_none_right_eq_some] at h; obtain ⟨_, h⟩ := h) | (rw [Option.ite_none_left_eq_some] at h; obtain ⟨_, h⟩ := h) | (simp only [Option.bind_some] at h))
    refine L.Gy hb1 Y.mv ?_
    refine L.Gy hb1 Y.mv ?_
    refine L.Gy hb1 Y.bin ?_
    refine L.Y (Y.pk (c := true) hb1) ?_
    refine L.Y Y.asg ?_
    refine AList.nil ?_
    repeat (first | (rw [Option.ite_none_right_eq_some] at h; obtain ⟨_, h⟩ := h) | (rw [Option.ite_none_left_eq_some] at h; obtain ⟨_, h⟩ := h) | (simp only [Option.bind_some] at h))
    obtain rfl := Option.some.inj h
    refine AWp.ret ?_
    exact ⟨.inr rfl, [(6, _)], _, ⟨rfl, rfl⟩, IsPart.at [] [] base0 .nil (E.c .nil)⟩
  · have hb1 := hb
    try simp only [decide_eq_true_eq, decide_eq_false_iff_not, Bool.not_eq_true', Bool.not_eq_false', Bool.not_eq_true, Bool.not_eq_false, beq_iff_eq, bne_iff_ne, beq_eq_false_iff_ne, bne_eq_false_iff_eq, ne_eq, Decidable.not_not] at hb
    first | rw [if_pos hb1] at h | rw [if_neg (Bool.eq_false_iff.1 hb1)] at h | rw [if_pos hb] at h | rw [if_neg hb] at h | (simp only [hb, Bool.not_false, Bool.not_true, Bool.false_eq_true, if_true, if_false, reduceIte] at h)
    repeat (first | (rw [Option.ite_none_right_eq_some] at h; obtain ⟨_, h⟩ := h) | (rw [Option.ite_none_left_eq_some] at h; obtain ⟨_, h⟩ := h) | (simp only [Option.bind_some] at h))
    refine L.Gn hb1 ?_
    refine L.Gn hb1 ?_
    refine L.Gn hb1 ?_
    refine L.Y (Y.pk (c := false) hb1) ?_
    refine L.Y Y.asg ?_
    refine AList.nil ?_
    repeat (first | (rw [Option.ite_none_right_eq_some] at h; obtain ⟨_, h⟩ := h) | (rw [Option.ite_none_left_eq_some] at h; obtain ⟨_, h⟩ := h) | (simp only [Option.bind_some] at h))
    obtain rfl := Option.some.inj h
    refine AWp.ret ?_
    exact ⟨.inr rfl, [(6, _)], _, ⟨rfl, rfl⟩, IsPart.at [] [] base0 .nil (E.c .nil)⟩

/-! ### spec_l1All: function 127 -/
def spec_l1All.l0 : Nat → Int → Int → List Int → Int → Int → Option (Bool)
  | 0, _, _, _, _, _ => none
  | k + 1, x1, x2, x9, x10, x11 => if x11 < x10 then (if 0 ≤ x11 then (if x11 < (x9.length : Int) then ((spec_l1In.f (rd x9 x11) x1 x2).bind fun t104 => (if t104 = true then (spec_l1All.l0 k x1 x2 x9 x10 (wrap64 (x11 + 1))) else (some false))) else (none)) else (none)) else (some true)
def spec_l1All.f (k : Nat) (l0 : List Int) (a1 : Int) (a2 : Int) : Option (Bool) := spec_l1All.l0 k a1 a2 l0 (l0.length : Int) 0
theorem spec_l1All.mono_l : ∀ k, (∀ y0 y1 y2 y3 y4, LeO (spec_l1All.l0 k y0 y1 y2 y3 y4) (spec_l1All.l0 (k + 1) y0 y1 y2 y3 y4))
  | 0 => fun _ _ _ _ _ r h => by simp [spec_l1All.l0] at h
  | k + 1 => by
    have ih0 := spec_l1All.mono_l k
    · intro y0 y1 y2 y3 y4
      unfold spec_l1All.l0
      repeat' first
      | (with_reducible exact ih0 _ _ _ _ _)
      | (with_reducible exact LeO.refl _)
      | (with_reducible exact LeO.none _)
      | (with_reducible refine LeO.ite ?_ ?_)
      | (with_reducible refine LeO.bind ?_ (fun _ => ?_))
      | exact ih0 _ _ _ _ _
      | exact LeO.none _
      | refine LeO.ite ?_ ?_
      | refine LeO.bind ?_ (fun _ => ?_)
theorem spec_l1All.mono : ∀ a0 a1 a2 k, LeO (spec_l1All.f k a0 a1 a2) (spec_l1All.f (k + 1) a0 a1 a2) := by
  intro a0 a1 a2 k
  have ih0 := spec_l1All.mono_l k
  unfold spec_l1All.f
  repeat' first
      | (with_reducible exact ih0 _ _ _ _ _)
      | (with_reducible exact LeO.refl _)
      | (with_reducible exact LeO.none _)
      | (with_reducible refine LeO.ite ?_ ?_)
      | (with_reducible refine LeO.bind ?_ (fun _ => ?_))
      | exact ih0 _ _ _ _ _
      | exact LeO.none _
      | refine LeO.ite ?_ ?_
      | refine LeO.bind ?_ (fun _ => ?_)
set_option maxRecDepth 100000 in
set_option maxHeartbeats 20000000 in
theorem spec_l1All.ac (k : Nat) (l0 : List Int) (a1 : Int) (a2 : Int) (r : Bool) (h : spec_l1All.f k l0 a1 a2 = some r) :
    ACalls Tryd.prog 127 [.row 1 l0.length false (ints .i64 l0), .lit (.int .i64 a1), .lit (.int .i64 a2)] [] (fun v H' => v = .lit (.bool r) ∧ H' = []) := by
  refine ACalls.ofP [6] Tryd.func127 rfl (by exact Nat.le_of_ble_eq_true rfl) rfl (by decide) ?_
  simp only [Tryd.ntmps127, env0, spec_l1All.f] at h ⊢
  repeat (first | (rw [Option.ite_none_right_eq_some] at h; obtain ⟨_, h⟩ := h) | (rw [Option.ite_none_left_eq_some] at h; obtain ⟨_, h⟩ := h) | (simp only [Option.bind_some] at h))
  refine AWp.seq ?_
  refine AWp.region ?_
  refine L.Y Y.asg ?_
  refine AList.nil ?_
  refine AWp.seq ?_
  refine AWp.seq ?_
  refine AWp.region ?_
  refine L.Y Y.mv ?_
  refine L.Y (Y.ln Tryd.underlying22) ?_
  refine L.Y Y.mv ?_
  refine AList.nil ?_
  refine AWp.block ?_
  repeat (first | (rw [Option.ite_none_right_eq_some] at h; obtain ⟨_, h⟩ := h) | (rw [Option.ite_none_left_eq_some] at h; obtain ⟨_, h⟩ := h) | (simp only [Option.bind_some] at h))
  refine AWp.loopI (fun kk e H => kk ≤ k ∧ ∃ (x1 : Int) (x2 : Int) (x9 : List Int) (x10 : Int) (x11 : Int), e = [(1, .lit (.int .i64 x1)), (2, .lit (.int .i64 x2)), (9, .row 1 x9.length false (ints .i64 x9)), (10, .lit (.int .i64 x10)), (11, .lit (.int .i64 x11))] ∧ H = [] ∧ spec_l1All.l0 kk x1 x2 x9 x10 x11 = some r) (k := k)
    ⟨_, _, ⟨Nat.le_refl _, _, _, _, _, _, rfl, rfl, h⟩, IsPart.at [] [] base0 .nil (E.c (E.c (E.c (E.c (E.c .nil)))))⟩ ?_
  clear h
  rintro k1 e H ⟨hk2, x1, x2, x9, x10, x11, rfl, rfl, h⟩
  cases k1 with
  | zero => exact absurd h (by simp [spec_l1All.l0])
  | succ k1 =>
  simp only [spec_l1All.l0] at h
  repeat (first | (rw [Option.ite_none_right_eq_some] at h; obtain ⟨_, h⟩ := h) | (rw [Option.ite_none_left_eq_some] at h; obtain ⟨_, h⟩ := h) | (simp only [Option.bind_some] at h))
  refine AWp.seq ?_
  refine AWp.region ?_
  refine L.Y Y.bin ?_
  refine AList.nil ?_
  refine AWp.seq ?_
  refine W.cond (fun hb => ?_) (fun hb => ?_)
  · have hb3 := hb
    try simp only [decide_eq_true_eq, decide_eq_false_iff_not, Bool.not_eq_true', Bool.not_eq_false', Bool.not_eq_true, Bool.not_eq_false, beq_iff_eq, bne_iff_ne, beq_eq_false_iff_ne, bne_eq_false_iff_eq, ne_eq, Decidable.not_not] at hb
    first | rw [if_pos hb3] at h | rw [if_neg (Bool.eq_false_iff.1 hb3)] at h | rw [if_pos hb] at h | rw [if_neg hb] at h | (simp only [hb, Bool.not_false, Bool.not_true, Bool.false_eq_true, if_true, if_false, reduceIte] at h)
    repeat (first | (rw [Option.ite_none_right_eq_some] at h; obtain ⟨_, h⟩ := h) | (rw [Option.ite_none_left_eq_some] at h; obtain ⟨_, h⟩ := h) | (simp only [Option.bind_some] at h))
    refine AWp.skip ?_
    refine AWp.seq ?_
    refine AWp.block ?_
    refine AWp.seq ?_
    refine AWp.region ?_
    refine L.Y (Y.ixr Tryd.underlying22 Y3) ?_
    refine L.S (S.ld Tryd.underlying3) ?_
    refine L.Y Y.asg ?_
    refine AList.nil ?_
    refine AWp.seq ?_
    refine AWp.region ?_
    refine L.Y Y.mv ?_
    refine L.Y Y.mv ?_
    refine L.Y Y.mv ?_
    repeat (first | (rw [Option.ite_none_right_eq_some] at h; obtain ⟨_, h⟩ := h) | (rw [Option.ite_none_left_eq_some] at h; obtain ⟨_, h⟩ := h) | (simp only [Option.bind_some] at h))
    obtain ⟨t104, hc4, h⟩ := Option.bind_eq_some_iff.1 h
    repeat (first | (rw [Option.ite_none_right_eq_some] at h; obtain ⟨_, h⟩ := h) | (rw [Option.ite_none_left_eq_some] at h; obtain ⟨_, h⟩ := h) | (simp only [Option.bind_some] at h))
    refine L.C (C.callE (l := true) [] Tryd.func65 (spec_l1In.ac _ _ _ _ hc4) .nil ?_)
    refine L.Y Y.nt ?_
    refine AList.nil ?_
    refine W.cond (fun hb => ?_) (fun hb => ?_)
    · have hb5 := hb
      try simp only [decide_eq_true_eq, decide_eq_false_iff_not, Bool.not_eq_true', Bool.not_eq_false', Bool.not_eq_true, Bool.not_eq_false, beq_iff_eq, bne_iff_ne, beq_eq_false_iff_ne, bne_eq_false_iff_eq, ne_eq, Decidable.not_not] at hb
      first | rw [if_pos hb5] at h | rw [if_neg (Bool.eq_false_iff.1 hb5)] at h | rw [if_pos hb] at h | rw [if_neg hb] at h | (simp only [hb, Bool.not_false, Bool.not_true, Bool.false_eq_true, if_true, if_false, reduceIte] at h)
      repeat (first | (rw [Option.ite_none_right_eq_some] at h; obtain ⟨_, h⟩ := h) | (rw [Option.ite_none_left_eq_some] at h; obtain ⟨_, h⟩ := h) | (simp only [Option.bind_some] at h))
      refine AWp.seq ?_
      refine AWp.region ?_
      refine L.Y Y.asg ?_
      refine AList.nil ?_
      repeat (first | (rw [Option.ite_none_right_eq_some] at h; obtain ⟨_, h⟩ := h) | (rw [Option.ite_none_left_eq_some] at h; obtain ⟨_, h⟩ := h) | (simp only [Option.bind_some] at h))
      obtain rfl := Option.some.inj h
      refine AWp.ret ?_
      exact ⟨.inr rfl, [(6, _)], _, ⟨rfl, rfl⟩, IsPart.at [] [] base0 .nil (E.c .nil)⟩
    · have hb5 := hb
      try simp only [decide_eq_true_eq, decide_eq_false_iff_not, Bool.not_eq_true', Bool.not_eq_false', Bool.not_eq_true, Bool.not_eq_false, beq_iff_eq, bne_iff_ne, beq_eq_false_iff_ne, bne_eq_false_iff_eq, ne_eq, Decidable.not_not] at hb
      first | rw [if_pos hb5] at h | rw [if_neg (Bool.eq_false_iff.1 hb5)] at h | rw [if_pos hb] at h | rw [if_neg hb] at h | (simp only [hb, Bool.not_false, Bool.not_true, Bool.false_eq_true, if_true, if_false, reduceIte] at h)
      repeat (first | (rw [Option.ite_none_right_eq_some] at h; obtain ⟨_, h⟩ := h) | (rw [Option.ite_none_left_eq_some] at h; obtain ⟨_, h⟩ := h) | (simp only [Option.bind_some] at h))
      refine AWp.skip ?_
      refine AWp.region ?_
      refine L.Y Y.bin ?_
      refine L.Y Y.mv ?_
      refine AList.nil ?_
      repeat (first | (rw [Option.ite_none_right_eq_some] at h; obtain ⟨_, h⟩ := h) | (rw [Option.ite_none_left_eq_some] at h; obtain ⟨_, h⟩ := h) | (simp only [Option.bind_some] at h))
      exact ⟨k1, by omega, _, _, ⟨by omega, _, _, _, _, _, rfl, rfl, h⟩, IsPart.at [] [] base0 .nil (E.c (E.c (E.c (E.c (E.c .nil)))))⟩
  · have hb3 := hb
    try simp only [decide_eq_true_eq, decide_eq_false_iff_not, Bool.not_eq_true', Bool.not_eq_false', Bool.not_eq_true, Bool.not_eq_false, beq_iff_eq, bne_iff_ne, beq_eq_false_iff_ne, bne_eq_false_iff_eq, ne_eq, Decidable.not_not] at hb
    first | rw [if_pos hb3] at h | rw [if_neg (Bool.eq_false_iff.1 hb3)] at h | rw [if_pos hb] at h | rw [if_neg hb] at h | (simp only [hb, Bool.not_false, Bool.not_true, Bool.false_eq_true, if_true, if_false, reduceIte] at h)
    repeat (first | (rw [Option.ite_none_right_eq_some] at h; obtain ⟨_, h⟩ := h) | (rw [Option.ite_none_left_eq_some] at h; obtain ⟨_, h⟩ := h) | (simp only [Option.bind_some] at h))
    refine AWp.exit ?_
    refine AWp.seq ?_
    refine AWp.region ?_
    refine L.Y Y.asg ?_
    refine AList.nil ?_
    repeat (first | (rw [Option.ite_none_right_eq_some] at h; obtain ⟨_, h⟩ := h) | (rw [Option.ite_none_left_eq_some] at h; obtain ⟨_, h⟩ := h) | (simp only [Option.bind_some] at h))
    obtain rfl := Option.some.inj h
    refine AWp.ret ?_
    exact ⟨.inr rfl, [(6, _)], _, ⟨rfl, rfl⟩, IsPart.at [] [] base0 .nil (E.c .nil)⟩

/-! ### spec_orRelation: function 84 -/
def spec_orRelation.f (k : Nat) (a0_0 : Int) (l0_1 : List Int) : Option (Bool) := (spec_l1In.f a0_0 0 10).bind fun t106 => (if t106 = true then (if (l0_1.length : Int) = a0_0 then (if 0 ≤ a0_0 then ((spec_l1All.f k l0_1 0 (wrap64 ((shl .i64 1 a0_0) - 1))).bind fun t107 => (some t107)) else (none)) else (some false)) else (some false))
theorem spec_orRelation.mono : ∀ a0 a1 k, LeO (spec_orRelation.f k a0 a1) (spec_orRelation.f (k + 1) a0 a1) := by
  intro a0 a1 k
  unfold spec_orRelation.f
  repeat' first
      | (with_reducible exact spec_l1All.mono _ _ _ _)
      | (with_reducible exact LeO.refl _)
      | (with_reducible exact LeO.none _)
      | (with_reducible refine LeO.ite ?_ ?_)
      | (with_reducible refine LeO.bind ?_ (fun _ => ?_))
      | exact spec_l1All.mono _ _ _ _
      | exact LeO.none _
      | refine LeO.ite ?_ ?_
      | refine LeO.bind ?_ (fun _ => ?_)
set_option maxRecDepth 100000 in
set_option maxHeartbeats 20000000 in
theorem spec_orRelation.ac (k : Nat) (a0_0 : Int) (l0_1 : List Int) (r : Bool) (h : spec_orRelation.f k a0_0 l0_1 = some r) :
    ACalls Tryd.prog 84 [.agg [.lit (.int .i64 a0_0), .row 1 l0_1.length false (ints .i64 l0_1)]] [] (fun v H' => v = .lit (.bool r) ∧ H' = []) := by
  refine ACalls.ofP [2] Tryd.func84 rfl (by exact Nat.le_of_ble_eq_true rfl) rfl (by decide) ?_
  simp only [Tryd.ntmps84, env0, spec_orRelation.f] at h ⊢
  repeat (first | (rw [Option.ite_none_right_eq_some] at h; obtain ⟨_, h⟩ := h) | (rw [Option.ite_none_left_eq_some] at h; obtain ⟨_, h⟩ := h) | (simp only [Option.bind_some] at h))
  refine AWp.seq ?_
  refine AWp.region ?_
  refine L.M M.bx ?_
  refine L.Y Y.asg ?_
  refine AList.nil ?_
  refine AWp.seq ?_
  refine Dq.reg [1, 1, 1, 1, 0, 0, 0, 1, 1, 1, 1, 1, 0, 0, 1, 1, 1, 1, 1, 1, 1] HM ?_
  refine Dq.V (Y.fa (off := 0) Tryd.underlying30 Y3) ?_
  refine Dq.U (D.ld Tryd.underlying3) ?_
  repeat (first | (rw [Option.ite_none_right_eq_some] at h; obtain ⟨_, h⟩ := h) | (rw [Option.ite_none_left_eq_some] at h; obtain ⟨_, h⟩ := h) | (simp only [Option.bind_some] at h))
  obtain ⟨t106, hc1, h⟩ := Option.bind_eq_some_iff.1 h
  repeat (first | (rw [Option.ite_none_right_eq_some] at h; obtain ⟨_, h⟩ := h) | (rw [Option.ite_none_left_eq_some] at h; obtain ⟨_, h⟩ := h) | (simp only [Option.bind_some] at h))
  refine Dq.C Tryd.func65 (spec_l1In.ac _ _ _ _ hc1) ?_
  refine Dq.V Y.mv ?_
  refine Dq.Gc (fun hb => ?_) (fun hb => ?_)
  · have hb2 := hb
    try simp only [decide_eq_true_eq, decide_eq_false_iff_not, Bool.not_eq_true', Bool.not_eq_false', Bool.not_eq_true, Bool.not_eq_false, beq_iff_eq, bne_iff_ne, beq_eq_false_iff_ne, bne_eq_false_iff_eq, ne_eq, Decidable.not_not] at hb
    first | rw [if_pos hb2] at h | rw [if_neg (Bool.eq_false_iff.1 hb2)] at h | rw [if_pos hb] at h | rw [if_neg hb] at h | (simp only [hb, Bool.not_false, Bool.not_true, Bool.false_eq_true, if_true, if_false, reduceIte] at h)
    repeat (first | (rw [Option.ite_none_right_eq_some] at h; obtain ⟨_, h⟩ := h) | (rw [Option.ite_none_left_eq_some] at h; obtain ⟨_, h⟩ := h) | (simp only [Option.bind_some] at h))
    refine Dq.GY hb2 (Y.fa (off := 1) Tryd.underlying30 Y22) ?_
    refine Dq.GT hb2 (D.ld Tryd.underlying22) ?_
    refine Dq.GY hb2 (Y.ln Tryd.underlying22) ?_
    refine Dq.GV hb2 (Y.fa (off := 0) Tryd.underlying30 Y3) ?_
    refine Dq.GU hb2 (D.ld Tryd.underlying3) ?_
    refine Dq.GV hb2 Y.bin ?_
    refine Dq.V (Y.pk (c := true) hb2) ?_
    refine Dq.V Y.mv ?_
    refine Dq.Gc (fun hb => ?_) (fun hb => ?_)
    · have hb3 := hb
      try simp only [decide_eq_true_eq, decide_eq_false_iff_not, Bool.not_eq_true', Bool.not_eq_false', Bool.not_eq_true, Bool.not_eq_false, beq_iff_eq, bne_iff_ne, beq_eq_false_iff_ne, bne_eq_false_iff_eq, ne_eq, Decidable.not_not] at hb
      first | rw [if_pos hb3] at h | rw [if_neg (Bool.eq_false_iff.1 hb3)] at h | rw [if_pos hb] at h | rw [if_neg hb] at h | (simp only [hb, Bool.not_false, Bool.not_true, Bool.false_eq_true, if_true, if_false, reduceIte] at h)
      repeat (first | (rw [Option.ite_none_right_eq_some] at h; obtain ⟨_, h⟩ := h) | (rw [Option.ite_none_left_eq_some] at h; obtain ⟨_, h⟩ := h) | (simp only [Option.bind_some] at h))
      refine Dq.GY hb3 (Y.fa (off := 1) Tryd.underlying30 Y22) ?_
      refine Dq.GT hb3 (D.ld Tryd.underlying22) ?_
      refine Dq.GV hb3 (Y.fa (off := 0) Tryd.underlying30 Y3) ?_
      refine Dq.GU hb3 (D.ld Tryd.underlying3) ?_
      refine Dq.GV hb3 Y.bin ?_
      refine Dq.GV hb3 Y.bin ?_
      repeat (first | (rw [Option.ite_none_right_eq_some] at h; obtain ⟨_, h⟩ := h) | (rw [Option.ite_none_left_eq_some] at h; obtain ⟨_, h⟩ := h) | (simp only [Option.bind_some] at h))
      obtain ⟨t107, hc4, h⟩ := Option.bind_eq_some_iff.1 h
      repeat (first | (rw [Option.ite_none_right_eq_some] at h; obtain ⟨_, h⟩ := h) | (rw [Option.ite_none_left_eq_some] at h; obtain ⟨_, h⟩ := h) | (simp only [Option.bind_some] at h))
      refine Dq.GC hb3 Tryd.func127 (spec_l1All.ac _ _ _ _ _ hc4) ?_
      refine Dq.V (Y.pk (c := true) hb3) ?_
      refine Dq.V Y.asg ?_
      refine Dq.nil ?_
      repeat (first | (rw [Option.ite_none_right_eq_some] at h; obtain ⟨_, h⟩ := h) | (rw [Option.ite_none_left_eq_some] at h; obtain ⟨_, h⟩ := h) | (simp only [Option.bind_some] at h))
      obtain rfl := Option.some.inj h
      refine AWp.ret ?_
      exact ⟨.inr rfl, [(2, _)], _, ⟨rfl, rfl⟩, IsPart.at [] [] base0 .nil (E.c .nil)⟩
    · have hb3 := hb
      try simp only [decide_eq_true_eq, decide_eq_false_iff_not, Bool.not_eq_true', Bool.not_eq_false', Bool.not_eq_true, Bool.not_eq_false, beq_iff_eq, bne_iff_ne, beq_eq_false_iff_ne, bne_eq_false_iff_eq, ne_eq, Decidable.not_not] at hb
      first | rw [if_pos hb3] at h | rw [if_neg (Bool.eq_false_iff.1 hb3)] at h | rw [if_pos hb] at h | rw [if_neg hb] at h | (simp only [hb, Bool.not_false, Bool.not_true, Bool.false_eq_true, if_true, if_false, reduceIte] at h)
      repeat (first | (rw [Option.ite_none_right_eq_some] at h; obtain ⟨_, h⟩ := h) | (rw [Option.ite_none_left_eq_some] at h; obtain ⟨_, h⟩ := h) | (simp only [Option.bind_some] at h))
      refine Dq.Gn hb3 ?_
      refine Dq.Gn hb3 ?_
      refine Dq.Gm hb3 ?_
      refine Dq.Gm hb3 ?_
      refine Dq.Gm hb3 ?_
      refine Dq.Gm hb3 ?_
      refine Dq.Gm hb3 ?_
      refine Dq.V (Y.pk (c := false) hb3) ?_
      refine Dq.V Y.asg ?_
      refine Dq.nil ?_
      repeat (first | (rw [Option.ite_none_right_eq_some] at h; obtain ⟨_, h⟩ := h) | (rw [Option.ite_none_left_eq_some] at h; obtain ⟨_, h⟩ := h) | (simp only [Option.bind_some] at h))
      obtain rfl := Option.some.inj h
      refine AWp.ret ?_
      exact ⟨.inr rfl, [(2, _)], _, ⟨rfl, rfl⟩, IsPart.at [] [] base0 .nil (E.c .nil)⟩
  · have hb2 := hb
    try simp only [decide_eq_true_eq, decide_eq_false_iff_not, Bool.not_eq_true', Bool.not_eq_false', Bool.not_eq_true, Bool.not_eq_false, beq_iff_eq, bne_iff_ne, beq_eq_false_iff_ne, bne_eq_false_iff_eq, ne_eq, Decidable.not_not] at hb
    first | rw [if_pos hb2] at h | rw [if_neg (Bool.eq_false_iff.1 hb2)] at h | rw [if_pos hb] at h | rw [if_neg hb] at h | (simp only [hb, Bool.not_false, Bool.not_true, Bool.false_eq_true, if_true, if_false, reduceIte] at h)
    repeat (first | (rw [Option.ite_none_right_eq_some] at h; obtain ⟨_, h⟩ := h) | (rw [Option.ite_none_left_eq_some] at h; obtain ⟨_, h⟩ := h) | (simp only [Option.bind_some] at h))
    refine Dq.Gn hb2 ?_
    refine Dq.Gn hb2 ?_
    refine Dq.Gn hb2 ?_
    refine Dq.Gm hb2 ?_
    refine Dq.Gm hb2 ?_
    refine Dq.Gm hb2 ?_
    refine Dq.V (Y.pk (c := false) hb2) ?_
    refine Dq.V Y.mv ?_
    refine Dq.Gc (fun hb => ?_) (fun hb => ?_)
    · first | (cases hb; done) | contradiction | (simp_all; done) | (exfalso; (try simp only [decide_eq_true_eq, decide_eq_false_iff_not, Bool.not_eq_true', Bool.not_eq_false', Bool.not_eq_true, Bool.not_eq_false, beq_iff_eq, bne_iff_ne, beq_eq_false_iff_ne, bne_eq_false_iff_eq, ne_eq, Decidable.not_not] at hb); omega) | (exfalso; simp_all; omega)
    have hb5 := hb
    refine Dq.Gn hb5 ?_
    refine Dq.Gn hb5 ?_
    refine Dq.Gm hb5 ?_
    refine Dq.Gm hb5 ?_
    refine Dq.Gm hb5 ?_
    refine Dq.Gm hb5 ?_
    refine Dq.Gm hb5 ?_
    refine Dq.V (Y.pk (c := false) hb5) ?_
    refine Dq.V Y.asg ?_
    refine Dq.nil ?_
    repeat (first | (rw [Option.ite_none_right_eq_some] at h; obtain ⟨_, h⟩ := h) | (rw [Option.ite_none_left_eq_some] at h; obtain ⟨_, h⟩ := h) | (simp only [Option.bind_some] at h))
    obtain rfl := Option.some.inj h
    refine AWp.ret ?_
    exact ⟨.inr rfl, [(2, _)], _, ⟨rfl, rfl⟩, IsPart.at [] [] base0 .nil (E.c .nil)⟩

/-! ### spec_orList: function 124 -/
def spec_orList.l0 : Nat → Int → List Int → Int → Option (List Int)
  | 0, _, _, _ => none
  | k + 1, x0, x3, x4 => if 0 ≤ x4 then (if (shr .i64 x0 x4) > 0 then ((spec_orHas.f x0 x4).bind fun t108 => (if t108 = true then (if x3.length < 17592186044416 then (spec_orList.l0 k x0 (x3 ++ [x4]) (wrap64 (x4 + 1))) else (none)) else (spec_orList.l0 k x0 x3 (wrap64 (x4 + 1))))) else (some x3)) else (none)
def spec_orList.f (k : Nat) (a0 : Int) : Option (List Int) := spec_orList.l0 k a0 ([] : List Int) 0
theorem spec_orList.mono_l : ∀ k, (∀ y0 y1 y2, LeO (spec_orList.l0 k y0 y1 y2) (spec_orList.l0 (k + 1) y0 y1 y2))
  | 0 => fun _ _ _ r h => by simp [spec_orList.l0] at h
  | k + 1 => by
    have ih0 := spec_orList.mono_l k
    · intro y0 y1 y2
      unfold spec_orList.l0
      repeat' first
      | (with_reducible exact ih0 _ _ _)
      | (with_reducible exact LeO.refl _)
      | (with_reducible exact LeO.none _)
      | (with_reducible refine LeO.ite ?_ ?_)
      | (with_reducible refine LeO.bind ?_ (fun _ => ?_))
      | exact ih0 _ _ _
      | exact LeO.none _
      | refine LeO.ite ?_ ?_
      | refine LeO.bind ?_ (fun _ => ?_)
theorem spec_orList.mono : ∀ a0 k, LeO (spec_orList.f k a0) (spec_orList.f (k + 1) a0) := by
  intro a0 k
  have ih0 := spec_orList.mono_l k
  unfold spec_orList.f
  repeat' first
      | (with_reducible exact ih0 _ _ _)
      | (with_reducible exact LeO.refl _)
      | (with_reducible exact LeO.none _)
      | (with_reducible refine LeO.ite ?_ ?_)
      | (with_reducible refine LeO.bind ?_ (fun _ => ?_))
      | exact ih0 _ _ _
      | exact LeO.none _
      | refine LeO.ite ?_ ?_
      | refine LeO.bind ?_ (fun _ => ?_)
set_option maxRecDepth 100000 in
set_option maxHeartbeats 20000000 in
theorem spec_orList.ac (k : Nat) (a0 : Int) (r : List Int) (h : spec_orList.f k a0 = some r) :
    ACalls Tryd.prog 124 [.lit (.int .i64 a0)] [] (fun v H' => v = .own 0 r.length ∧ H' = [.sl 3 1 r.length false (ints .i64 r)]) := by
  refine ACalls.ofP [2] Tryd.func124 rfl (by exact Nat.le_of_ble_eq_true rfl) rfl (by decide) ?_
  simp only [Tryd.ntmps124, env0, spec_orList.f] at h ⊢
  repeat (first | (rw [Option.ite_none_right_eq_some] at h; obtain ⟨_, h⟩ := h) | (rw [Option.ite_none_left_eq_some] at h; obtain ⟨_, h⟩ := h) | (simp only [Option.bind_some] at h))
  refine AWp.seq ?_
  refine AWp.region ?_
  refine L.Y Y.asg ?_
  refine AList.nil ?_
  refine AWp.seq ?_
  refine AWp.region ?_
  refine L.Y Y.asg ?_
  refine AList.nil ?_
  refine AWp.seq ?_
  refine AWp.seq ?_
  refine AWp.region ?_
  refine L.Y Y.asg ?_
  refine AList.nil ?_
  refine AWp.block ?_
  repeat (first | (rw [Option.ite_none_right_eq_some] at h; obtain ⟨_, h⟩ := h) | (rw [Option.ite_none_left_eq_some] at h; obtain ⟨_, h⟩ := h) | (simp only [Option.bind_some] at h))
  refine AWp.loopI (fun kk e H => kk ≤ k ∧ ∃ (x0 : Int) (x3 : List Int) (x4 : Int), e = [(0, .lit (.int .i64 x0)), (2, .lit (.slice none 0 0)), (3, .own 0 x3.length), (4, .lit (.int .i64 x4))] ∧ H = [.sl 3 1 x3.length false (ints .i64 x3)] ∧ spec_orList.l0 kk x0 x3 x4 = some r) (k := k)
    ⟨_, _, ⟨Nat.le_refl _, _, _, _, rfl, rfl, h⟩, IsPart.at [(3, 1)] [0] base0 (H.c .nil) (E.c (E.c (E.c (E.c .nil))))⟩ ?_
  clear h
  rintro k1 e H ⟨hk2, x0, x3, x4, rfl, rfl, h⟩
  cases k1 with
  | zero => exact absurd h (by simp [spec_orList.l0])
  | succ k1 =>
  simp only [spec_orList.l0] at h
  repeat (first | (rw [Option.ite_none_right_eq_some] at h; obtain ⟨_, h⟩ := h) | (rw [Option.ite_none_left_eq_some] at h; obtain ⟨_, h⟩ := h) | (simp only [Option.bind_some] at h))
  refine AWp.seq ?_
  refine AWp.seq ?_
  refine AWp.region ?_
  refine L.Y Y.mv ?_
  refine L.Y Y.mv ?_
  refine L.Y Y.bin ?_
  refine L.Y Y.bin ?_
  refine AList.nil ?_
  refine W.cond (fun hb => ?_) (fun hb => ?_)
  · have hb3 := hb
    try simp only [decide_eq_true_eq, decide_eq_false_iff_not, Bool.not_eq_true', Bool.not_eq_false', Bool.not_eq_true, Bool.not_eq_false, beq_iff_eq, bne_iff_ne, beq_eq_false_iff_ne, bne_eq_false_iff_eq, ne_eq, Decidable.not_not] at hb
    first | rw [if_pos hb3] at h | rw [if_neg (Bool.eq_false_iff.1 hb3)] at h | rw [if_pos hb] at h | rw [if_neg hb] at h | (simp only [hb, Bool.not_false, Bool.not_true, Bool.false_eq_true, if_true, if_false, reduceIte] at h)
    repeat (first | (rw [Option.ite_none_right_eq_some] at h; obtain ⟨_, h⟩ := h) | (rw [Option.ite_none_left_eq_some] at h; obtain ⟨_, h⟩ := h) | (simp only [Option.bind_some] at h))
    refine AWp.skip ?_
    refine AWp.seq ?_
    refine AWp.block ?_
    refine AWp.seq ?_
    refine AWp.region ?_
    refine L.Y Y.mv ?_
    refine L.Y Y.mv ?_
    repeat (first | (rw [Option.ite_none_right_eq_some] at h; obtain ⟨_, h⟩ := h) | (rw [Option.ite_none_left_eq_some] at h; obtain ⟨_, h⟩ := h) | (simp only [Option.bind_some] at h))
    obtain ⟨t108, hc4, h⟩ := Option.bind_eq_some_iff.1 h
    repeat (first | (rw [Option.ite_none_right_eq_some] at h; obtain ⟨_, h⟩ := h) | (rw [Option.ite_none_left_eq_some] at h; obtain ⟨_, h⟩ := h) | (simp only [Option.bind_some] at h))
    refine L.C (C.callE (l := true) [] Tryd.func67 (spec_orHas.ac _ _ _ hc4) .nil ?_)
    refine AList.nil ?_
    refine W.cond (fun hb => ?_) (fun hb => ?_)
    · have hb5 := hb
      try simp only [decide_eq_true_eq, decide_eq_false_iff_not, Bool.not_eq_true', Bool.not_eq_false', Bool.not_eq_true, Bool.not_eq_false, beq_iff_eq, bne_iff_ne, beq_eq_false_iff_ne, bne_eq_false_iff_eq, ne_eq, Decidable.not_not] at hb
      first | rw [if_pos hb5] at h | rw [if_neg (Bool.eq_false_iff.1 hb5)] at h | rw [if_pos hb] at h | rw [if_neg hb] at h | (simp only [hb, Bool.not_false, Bool.not_true, Bool.false_eq_true, if_true, if_false, reduceIte] at h)
      repeat (first | (rw [Option.ite_none_right_eq_some] at h; obtain ⟨_, h⟩ := h) | (rw [Option.ite_none_left_eq_some] at h; obtain ⟨_, h⟩ := h) | (simp only [Option.bind_some] at h))
      refine AWp.region ?_
      refine L.Y Y.mv ?_
      refine L.Y Y.mv ?_
      refine L.M (M.bs Tryd.underlying22 Y3) ?_
      refine L.S (S.ap (nn' := false) Tryd.underlying22 Y3) ?_
      refine L.Y Y.asg ?_
      refine AList.nil ?_
      refine AWp.region ?_
      refine L.Y Y.mv ?_
      refine L.Y Y.bin ?_
      refine L.Y Y.asg ?_
      refine AList.nil ?_
      repeat (first | (rw [Option.ite_none_right_eq_some] at h; obtain ⟨_, h⟩ := h) | (rw [Option.ite_none_left_eq_some] at h; obtain ⟨_, h⟩ := h) | (simp only [Option.bind_some] at h))
      exact ⟨k1, by omega, _, _, ⟨by omega, _, _, _, rfl, rfl, h⟩, IsPart.at [] [0] base0 (H.c .nil) (E.c (E.c (E.c (E.c .nil))))⟩
    · have hb5 := hb
      try simp only [decide_eq_true_eq, decide_eq_false_iff_not, Bool.not_eq_true', Bool.not_eq_false', Bool.not_eq_true, Bool.not_eq_false, beq_iff_eq, bne_iff_ne, beq_eq_false_iff_ne, bne_eq_false_iff_eq, ne_eq, Decidable.not_not] at hb
      first | rw [if_pos hb5] at h | rw [if_neg (Bool.eq_false_iff.1 hb5)] at h | rw [if_pos hb] at h | rw [if_neg hb] at h | (simp only [hb, Bool.not_false, Bool.not_true, Bool.false_eq_true, if_true, if_false, reduceIte] at h)
      repeat (first | (rw [Option.ite_none_right_eq_some] at h; obtain ⟨_, h⟩ := h) | (rw [Option.ite_none_left_eq_some] at h; obtain ⟨_, h⟩ := h) | (simp only [Option.bind_some] at h))
      refine AWp.skip ?_
      refine AWp.region ?_
      refine L.Y Y.mv ?_
      refine L.Y Y.bin ?_
      refine L.Y Y.asg ?_
      refine AList.nil ?_
      repeat (first | (rw [Option.ite_none_right_eq_some] at h; obtain ⟨_, h⟩ := h) | (rw [Option.ite_none_left_eq_some] at h; obtain ⟨_, h⟩ := h) | (simp only [Option.bind_some] at h))
      exact ⟨k1, by omega, _, _, ⟨by omega, _, _, _, rfl, rfl, h⟩, IsPart.at [] [0] base0 (H.c .nil) (E.c (E.c (E.c (E.c .nil))))⟩
  · have hb3 := hb
    try simp only [decide_eq_true_eq, decide_eq_false_iff_not, Bool.not_eq_true', Bool.not_eq_false', Bool.not_eq_true, Bool.not_eq_false, beq_iff_eq, bne_iff_ne, beq_eq_false_iff_ne, bne_eq_false_iff_eq, ne_eq, Decidable.not_not] at hb
    first | rw [if_pos hb3] at h | rw [if_neg (Bool.eq_false_iff.1 hb3)] at h | rw [if_pos hb] at h | rw [if_neg hb] at h | (simp only [hb, Bool.not_false, Bool.not_true, Bool.false_eq_true, if_true, if_false, reduceIte] at h)
    repeat (first | (rw [Option.ite_none_right_eq_some] at h; obtain ⟨_, h⟩ := h) | (rw [Option.ite_none_left_eq_some] at h; obtain ⟨_, h⟩ := h) | (simp only [Option.bind_some] at h))
    refine AWp.exit ?_
    refine AWp.seq ?_
    refine AWp.region ?_
    refine L.Y Y.mv ?_
    refine L.Y Y.asg ?_
    refine AList.nil ?_
    repeat (first | (rw [Option.ite_none_right_eq_some] at h; obtain ⟨_, h⟩ := h) | (rw [Option.ite_none_left_eq_some] at h; obtain ⟨_, h⟩ := h) | (simp only [Option.bind_some] at h))
    obtain rfl := Option.some.inj h
    refine AWp.ret ?_
    exact ⟨.inr rfl, [(2, _)], _, ⟨rfl, rfl⟩, IsPart.at [] [0] base0 (H.c .nil) (E.c .nil)⟩

/-! ### spec_orGood: function 64 -/
mutual
def spec_orGood.l0 : Nat → List Int → Int → Int → Int → List Int → Option (Bool)
  | 0, _, _, _, _, _ => none
  | k + 1, x11, x12, x13, x113000, x113001 => if x13 < x12 then (if 0 ≤ x13 then (if x13 < (x11.length : Int) then ((spec_orHas.f (rd x11 x13) x13).bind fun t115 => (if t115 = true then (some false) else ((spec_orList.f k (rd x11 x13)).bind fun t116 => (spec_orGood.l1 k (rd x11 x13) x11 x12 x13 t116 (t116.length : Int) 0 x113000 x113001)))) else (none)) else (none)) else (some true)
def spec_orGood.l1 : Nat → Int → List Int → Int → Int → List Int → Int → Int → Int → List Int → Option (Bool)
  | 0, _, _, _, _, _, _, _, _, _ => none
  | k + 1, x4, x11, x12, x13, x22, x23, x24, x113000, x113001 => if x24 < x23 then (if 0 ≤ x24 then (if x24 < (x22.length : Int) then (if 0 ≤ (rd x22 x24) then (if (rd x22 x24) < (x113001.length : Int) then (if (Go.bits .andNot .i64 (rd x113001 (rd x22 x24)) x4) = 0 then (spec_orGood.l1 k x4 x11 x12 x13 x22 x23 (wrap64 (x24 + 1)) x113000 x113001) else (some false)) else (none)) else (none)) else (none)) else (none)) else (spec_orGood.l0 k x11 x12 (wrap64 (x13 + 1)) x113000 x113001)
end
def spec_orGood.f (k : Nat) (a0_0 : Int) (l0_1 : List Int) : Option (Bool) := (spec_orRelation.f k a0_0 l0_1).bind fun t113 => (if t113 = true then (spec_orGood.l0 k l0_1 (l0_1.length : Int) 0 a0_0 l0_1) else (some false))
theorem spec_orGood.mono_l : ∀ k, (∀ y0 y1 y2 y3 y4, LeO (spec_orGood.l0 k y0 y1 y2 y3 y4) (spec_orGood.l0 (k + 1) y0 y1 y2 y3 y4)) ∧ (∀ y0 y1 y2 y3 y4 y5 y6 y7 y8, LeO (spec_orGood.l1 k y0 y1 y2 y3 y4 y5 y6 y7 y8) (spec_orGood.l1 (k + 1) y0 y1 y2 y3 y4 y5 y6 y7 y8))
  | 0 => ⟨fun _ _ _ _ _ r h => by simp [spec_orGood.l0] at h, fun _ _ _ _ _ _ _ _ _ r h => by simp [spec_orGood.l1] at h⟩
  | k + 1 => by
    obtain ⟨ih0, ih1⟩ := spec_orGood.mono_l k
    refine ⟨?_, ?_⟩
    · intro y0 y1 y2 y3 y4
      unfold spec_orGood.l0
      repeat' first
      | (with_reducible exact ih0 _ _ _ _ _)
      | (with_reducible exact ih1 _ _ _ _ _ _ _ _ _)
      | (with_reducible exact spec_orList.mono _ _)
      | (with_reducible exact spec_orRelation.mono _ _ _)
      | (with_reducible exact LeO.refl _)
      | (with_reducible exact LeO.none _)
      | (with_reducible refine LeO.ite ?_ ?_)
      | (with_reducible refine LeO.bind ?_ (fun _ => ?_))
      | exact ih0 _ _ _ _ _
      | exact ih1 _ _ _ _ _ _ _ _ _
      | exact spec_orList.mono _ _
      | exact spec_orRelation.mono _ _ _
      | exact LeO.none _
      | refine LeO.ite ?_ ?_
      | refine LeO.bind ?_ (fun _ => ?_)
    · intro y0 y1 y2 y3 y4 y5 y6 y7 y8
      unfold spec_orGood.l1
      repeat' first
      | (with_reducible exact ih0 _ _ _ _ _)
      | (with_reducible exact ih1 _ _ _ _ _ _ _ _ _)
      | (with_reducible exact spec_orList.mono _ _)
      | (with_reducible exact spec_orRelation.mono _ _ _)
      | (with_reducible exact LeO.refl _)
      | (with_reducible exact LeO.none _)
      | (with_reducible refine LeO.ite ?_ ?_)
      | (with_reducible refine LeO.bind ?_ (fun _ => ?_))
      | exact ih0 _ _ _ _ _
      | exact ih1 _ _ _ _ _ _ _ _ _
      | exact spec_orList.mono _ _
      | exact spec_orRelation.mono _ _ _
      | exact LeO.none _
      | refine LeO.ite ?_ ?_
      | refine LeO.bind ?_ (fun _ => ?_)
theorem spec_orGood.mono : ∀ a0 a1 k, LeO (spec_orGood.f k a0 a1) (spec_orGood.f (k + 1) a0 a1) := by
  intro a0 a1 k
  obtain ⟨ih0, ih1⟩ := spec_orGood.mono_l k
  unfold spec_orGood.f
  repeat' first
      | (with_reducible exact ih0 _ _ _ _ _)
      | (with_reducible exact ih1 _ _ _ _ _ _ _ _ _)
      | (with_reducible exact spec_orList.mono _ _)
      | (with_reducible exact spec_orRelation.mono _ _ _)
      | (with_reducible exact LeO.refl _)
      | (with_reducible exact LeO.none _)
      | (with_reducible refine LeO.ite ?_ ?_)
      | (with_reducible refine LeO.bind ?_ (fun _ => ?_))
      | exact ih0 _ _ _ _ _
      | exact ih1 _ _ _ _ _ _ _ _ _
      | exact spec_orList.mono _ _
      | exact spec_orRelation.mono _ _ _
      | exact LeO.none _
      | refine LeO.ite ?_ ?_
      | refine LeO.bind ?_ (fun _ => ?_)
set_option maxRecDepth 100000 in
set_option maxHeartbeats 20000000 in
theorem spec_orGood.ac (k : Nat) (a0_0 : Int) (l0_1 : List Int) (r : Bool) (h : spec_orGood.f k a0_0 l0_1 = some r) :
    ACalls Tryd.prog 64 [.agg [.lit (.int .i64 a0_0), .row 1 l0_1.length false (ints .i64 l0_1)]] [] (fun v H' => v = .lit (.bool r) ∧ H' = []) := by
  refine ACalls.ofP [2] Tryd.func64 rfl (by exact Nat.le_of_ble_eq_true rfl) rfl (by decide) ?_
  simp only [Tryd.ntmps64, env0, spec_orGood.f] at h ⊢
  repeat (first | (rw [Option.ite_none_right_eq_some] at h; obtain ⟨_, h⟩ := h) | (rw [Option.ite_none_left_eq_some] at h; obtain ⟨_, h⟩ := h) | (simp only [Option.bind_some] at h))
  refine AWp.seq ?_
  refine AWp.region ?_
  refine L.M M.bx ?_
  refine L.Y Y.asg ?_
  refine AList.nil ?_
  refine AWp.seq ?_
  refine AWp.seq ?_
  refine AWp.region ?_
  refine L.S (S.ldN Tryd.underlying30 Y30) ?_
  repeat (first | (rw [Option.ite_none_right_eq_some] at h; obtain ⟨_, h⟩ := h) | (rw [Option.ite_none_left_eq_some] at h; obtain ⟨_, h⟩ := h) | (simp only [Option.bind_some] at h))
  obtain ⟨t113, hc1, h⟩ := Option.bind_eq_some_iff.1 h
  repeat (first | (rw [Option.ite_none_right_eq_some] at h; obtain ⟨_, h⟩ := h) | (rw [Option.ite_none_left_eq_some] at h; obtain ⟨_, h⟩ := h) | (simp only [Option.bind_some] at h))
  refine L.C (C.callE (l := true) [] Tryd.func84 (spec_orRelation.ac _ _ _ _ hc1) .nil ?_)
  refine L.Y Y.nt ?_
  refine AList.nil ?_
  refine W.cond (fun hb => ?_) (fun hb => ?_)
  · have hb2 := hb
    try simp only [decide_eq_true_eq, decide_eq_false_iff_not, Bool.not_eq_true', Bool.not_eq_false', Bool.not_eq_true, Bool.not_eq_false, beq_iff_eq, bne_iff_ne, beq_eq_false_iff_ne, bne_eq_false_iff_eq, ne_eq, Decidable.not_not] at hb
    first | rw [if_pos hb2] at h | rw [if_neg (Bool.eq_false_iff.1 hb2)] at h | rw [if_pos hb] at h | rw [if_neg hb] at h | (simp only [hb, Bool.not_false, Bool.not_true, Bool.false_eq_true, if_true, if_false, reduceIte] at h)
    repeat (first | (rw [Option.ite_none_right_eq_some] at h; obtain ⟨_, h⟩ := h) | (rw [Option.ite_none_left_eq_some] at h; obtain ⟨_, h⟩ := h) | (simp only [Option.bind_some] at h))
    refine AWp.seq ?_
    refine AWp.region ?_
    refine L.Y Y.asg ?_
    refine AList.nil ?_
    repeat (first | (rw [Option.ite_none_right_eq_some] at h; obtain ⟨_, h⟩ := h) | (rw [Option.ite_none_left_eq_some] at h; obtain ⟨_, h⟩ := h) | (simp only [Option.bind_some] at h))
    obtain rfl := Option.some.inj h
    refine AWp.ret ?_
    exact ⟨.inr rfl, [(2, _)], _, ⟨rfl, rfl⟩, IsPart.at [] [] base0 .nil (E.c .nil)⟩
  · have hb2 := hb
    try simp only [decide_eq_true_eq, decide_eq_false_iff_not, Bool.not_eq_true', Bool.not_eq_false', Bool.not_eq_true, Bool.not_eq_false, beq_iff_eq, bne_iff_ne, beq_eq_false_iff_ne, bne_eq_false_iff_eq, ne_eq, Decidable.not_not] at hb
    first | rw [if_pos hb2] at h | rw [if_neg (Bool.eq_false_iff.1 hb2)] at h | rw [if_pos hb] at h | rw [if_neg hb] at h | (simp only [hb, Bool.not_false, Bool.not_true, Bool.false_eq_true, if_true, if_false, reduceIte] at h)
    repeat (first | (rw [Option.ite_none_right_eq_some] at h; obtain ⟨_, h⟩ := h) | (rw [Option.ite_none_left_eq_some] at h; obtain ⟨_, h⟩ := h) | (simp only [Option.bind_some] at h))
    refine AWp.skip ?_
    refine AWp.seq ?_
    refine AWp.seq ?_
    refine AWp.region ?_
    refine L.Y (Y.fa (off := 1) Tryd.underlying30 Y22) ?_
    refine L.S (S.ld Tryd.underlying22) ?_
    refine L.Y (Y.ln Tryd.underlying22) ?_
    refine L.Y Y.mv ?_
    refine AList.nil ?_
    refine AWp.block ?_
    repeat (first | (rw [Option.ite_none_right_eq_some] at h; obtain ⟨_, h⟩ := h) | (rw [Option.ite_none_left_eq_some] at h; obtain ⟨_, h⟩ := h) | (simp only [Option.bind_some] at h))
    refine AWp.loopI (fun kk e H => kk ≤ k ∧ ∃ (x11 : List Int) (x12 : Int) (x13 : Int) (x113000 : Int) (x113001 : List Int), e = [(1, .ptr 0 0), (11, .row 1 x11.length false (ints .i64 x11)), (12, .lit (.int .i64 x12)), (13, .lit (.int .i64 x13))] ∧ H = [.bx 30 [.lit (.int .i64 x113000), .row 1 x113001.length false (ints .i64 x113001)]] ∧ spec_orGood.l0 kk x11 x12 x13 x113000 x113001 = some r) (k := k)
      ⟨_, _, ⟨Nat.le_refl _, _, _, _, _, _, rfl, rfl, h⟩, IsPart.at [] [0] base0 (H.c .nil) (E.c (E.c (E.c (E.c .nil))))⟩ ?_
    clear h
    rintro k3 e H ⟨hk4, x11, x12, x13, x113000, x113001, rfl, rfl, h⟩
    cases k3 with
    | zero => exact absurd h (by simp [spec_orGood.l0])
    | succ k3 =>
    simp only [spec_orGood.l0] at h
    repeat (first | (rw [Option.ite_none_right_eq_some] at h; obtain ⟨_, h⟩ := h) | (rw [Option.ite_none_left_eq_some] at h; obtain ⟨_, h⟩ := h) | (simp only [Option.bind_some] at h))
    refine AWp.seq ?_
    refine AWp.region ?_
    refine L.Y Y.bin ?_
    refine AList.nil ?_
    refine AWp.seq ?_
    refine W.cond (fun hb => ?_) (fun hb => ?_)
    · have hb5 := hb
      try simp only [decide_eq_true_eq, decide_eq_false_iff_not, Bool.not_eq_true', Bool.not_eq_false', Bool.not_eq_true, Bool.not_eq_false, beq_iff_eq, bne_iff_ne, beq_eq_false_iff_ne, bne_eq_false_iff_eq, ne_eq, Decidable.not_not] at hb
      first | rw [if_pos hb5] at h | rw [if_neg (Bool.eq_false_iff.1 hb5)] at h | rw [if_pos hb] at h | rw [if_neg hb] at h | (simp only [hb, Bool.not_false, Bool.not_true, Bool.false_eq_true, if_true, if_false, reduceIte] at h)
      repeat (first | (rw [Option.ite_none_right_eq_some] at h; obtain ⟨_, h⟩ := h) | (rw [Option.ite_none_left_eq_some] at h; obtain ⟨_, h⟩ := h) | (simp only [Option.bind_some] at h))
      refine AWp.skip ?_
      refine AWp.seq ?_
      refine AWp.block ?_
      refine AWp.seq ?_
      refine AWp.region ?_
      refine L.Y Y.mv ?_
      refine L.Y (Y.ixr Tryd.underlying22 Y3) ?_
      refine L.S (S.ld Tryd.underlying3) ?_
      refine L.Y Y.asg ?_
      refine L.Y Y.asg ?_
      refine AList.nil ?_
      refine AWp.seq ?_
      refine AWp.seq ?_
      refine AWp.region ?_
      refine L.Y Y.mv ?_
      refine L.Y Y.mv ?_
      repeat (first | (rw [Option.ite_none_right_eq_some] at h; obtain ⟨_, h⟩ := h) | (rw [Option.ite_none_left_eq_some] at h; obtain ⟨_, h⟩ := h) | (simp only [Option.bind_some] at h))
      obtain ⟨t115, hc6, h⟩ := Option.bind_eq_some_iff.1 h
      repeat (first | (rw [Option.ite_none_right_eq_some] at h; obtain ⟨_, h⟩ := h) | (rw [Option.ite_none_left_eq_some] at h; obtain ⟨_, h⟩ := h) | (simp only [Option.bind_some] at h))
      refine L.C (C.callE (l := true) [] Tryd.func67 (spec_orHas.ac _ _ _ hc6) .nil ?_)
      refine AList.nil ?_
      refine W.cond (fun hb => ?_) (fun hb => ?_)
      · have hb7 := hb
        try simp only [decide_eq_true_eq, decide_eq_false_iff_not, Bool.not_eq_true', Bool.not_eq_false', Bool.not_eq_true, Bool.not_eq_false, beq_iff_eq, bne_iff_ne, beq_eq_false_iff_ne, bne_eq_false_iff_eq, ne_eq, Decidable.not_not] at hb
        first | rw [if_pos hb7] at h | rw [if_neg (Bool.eq_false_iff.1 hb7)] at h | rw [if_pos hb] at h | rw [if_neg hb] at h | (simp only [hb, Bool.not_false, Bool.not_true, Bool.false_eq_true, if_true, if_false, reduceIte] at h)
        repeat (first | (rw [Option.ite_none_right_eq_some] at h; obtain ⟨_, h⟩ := h) | (rw [Option.ite_none_left_eq_some] at h; obtain ⟨_, h⟩ := h) | (simp only [Option.bind_some] at h))
        refine AWp.seq ?_
        refine AWp.region ?_
        refine L.Y Y.asg ?_
        refine AList.nil ?_
        repeat (first | (rw [Option.ite_none_right_eq_some] at h; obtain ⟨_, h⟩ := h) | (rw [Option.ite_none_left_eq_some] at h; obtain ⟨_, h⟩ := h) | (simp only [Option.bind_some] at h))
        obtain rfl := Option.some.inj h
        refine AWp.ret ?_
        exact ⟨.inr rfl, [(2, _)], _, ⟨rfl, rfl⟩, IsPart.at [] [] base0 .nil (E.c .nil)⟩
      · have hb7 := hb
        try simp only [decide_eq_true_eq, decide_eq_false_iff_not, Bool.not_eq_true', Bool.not_eq_false', Bool.not_eq_true, Bool.not_eq_false, beq_iff_eq, bne_iff_ne, beq_eq_false_iff_ne, bne_eq_false_iff_eq, ne_eq, Decidable.not_not] at hb
        first | rw [if_pos hb7] at h | rw [if_neg (Bool.eq_false_iff.1 hb7)] at h | rw [if_pos hb] at h | rw [if_neg hb] at h | (simp only [hb, Bool.not_false, Bool.not_true, Bool.false_eq_true, if_true, if_false, reduceIte] at h)
        repeat (first | (rw [Option.ite_none_right_eq_some] at h; obtain ⟨_, h⟩ := h) | (rw [Option.ite_none_left_eq_some] at h; obtain ⟨_, h⟩ := h) | (simp only [Option.bind_some] at h))
        refine AWp.skip ?_
        refine AWp.seq ?_
        refine AWp.region ?_
        refine L.Y Y.mv ?_
        repeat (first | (rw [Option.ite_none_right_eq_some] at h; obtain ⟨_, h⟩ := h) | (rw [Option.ite_none_left_eq_some] at h; obtain ⟨_, h⟩ := h) | (simp only [Option.bind_some] at h))
        obtain ⟨t116, hc8, h⟩ := Option.bind_eq_some_iff.1 h
        repeat (first | (rw [Option.ite_none_right_eq_some] at h; obtain ⟨_, h⟩ := h) | (rw [Option.ite_none_left_eq_some] at h; obtain ⟨_, h⟩ := h) | (simp only [Option.bind_some] at h))
        refine L.C (C.callE (l := true) [] Tryd.func124 (spec_orList.ac _ _ _ hc8) .nil ?_)
        refine L.Y (Y.ln Tryd.underlying22) ?_
        refine L.Y Y.mv ?_
        refine AList.nil ?_
        refine AWp.block ?_
        repeat (first | (rw [Option.ite_none_right_eq_some] at h; obtain ⟨_, h⟩ := h) | (rw [Option.ite_none_left_eq_some] at h; obtain ⟨_, h⟩ := h) | (simp only [Option.bind_some] at h))
        refine AWp.loopI (fun kk e H => kk ≤ k3 ∧ ∃ (x4 : Int) (x11 : List Int) (x12 : Int) (x13 : Int) (x22 : List Int) (x23 : Int) (x24 : Int) (x113000 : Int) (x113001 : List Int), e = [(1, .ptr 0 0), (4, .lit (.int .i64 x4)), (11, .row 1 x11.length false (ints .i64 x11)), (12, .lit (.int .i64 x12)), (13, .lit (.int .i64 x13)), (22, .own 1 x22.length), (23, .lit (.int .i64 x23)), (24, .lit (.int .i64 x24))] ∧ H = [.bx 30 [.lit (.int .i64 x113000), .row 1 x113001.length false (ints .i64 x113001)], .sl 3 1 x22.length false (ints .i64 x22)] ∧ spec_orGood.l1 kk x4 x11 x12 x13 x22 x23 x24 x113000 x113001 = some r) (k := k3)
          ⟨_, _, ⟨Nat.le_refl _, _, _, _, _, _, _, _, _, _, rfl, rfl, h⟩, IsPart.at [] [0, 1] base0 (H.c (H.c .nil)) (E.c (E.c (E.c (E.c (E.c (E.c (E.c (E.c .nil))))))))⟩ ?_
        clear h
        rintro k9 e H ⟨hk10, x4, x11, x12, x13, x22, x23, x24, x113000, x113001, rfl, rfl, h⟩
        cases k9 with
        | zero => exact absurd h (by simp [spec_orGood.l1])
        | succ k9 =>
        simp only [spec_orGood.l1] at h
        repeat (first | (rw [Option.ite_none_right_eq_some] at h; obtain ⟨_, h⟩ := h) | (rw [Option.ite_none_left_eq_some] at h; obtain ⟨_, h⟩ := h) | (simp only [Option.bind_some] at h))
        refine AWp.seq ?_
        refine AWp.region ?_
        refine L.Y Y.bin ?_
        refine AList.nil ?_
        refine AWp.seq ?_
        refine W.cond (fun hb => ?_) (fun hb => ?_)
        · have hb11 := hb
          try simp only [decide_eq_true_eq, decide_eq_false_iff_not, Bool.not_eq_true', Bool.not_eq_false', Bool.not_eq_true, Bool.not_eq_false, beq_iff_eq, bne_iff_ne, beq_eq_false_iff_ne, bne_eq_false_iff_eq, ne_eq, Decidable.not_not] at hb
          first | rw [if_pos hb11] at h | rw [if_neg (Bool.eq_false_iff.1 hb11)] at h | rw [if_pos hb] at h | rw [if_neg hb] at h | (simp only [hb, Bool.not_false, Bool.not_true, Bool.false_eq_true, if_true, if_false, reduceIte] at h)
          repeat (first | (rw [Option.ite_none_right_eq_some] at h; obtain ⟨_, h⟩ := h) | (rw [Option.ite_none_left_eq_some] at h; obtain ⟨_, h⟩ := h) | (simp only [Option.bind_some] at h))
          refine AWp.skip ?_
          refine AWp.seq ?_
          refine AWp.block ?_
          refine AWp.seq ?_
          refine AWp.region ?_
          refine L.Y (Y.ixo Tryd.underlying22 Y3) ?_
          refine L.S (S.ld Tryd.underlying3) ?_
          refine L.Y Y.asg ?_
          refine AList.nil ?_
          refine AWp.seq ?_
          refine AWp.region ?_
          refine L.Y (Y.fa (off := 1) Tryd.underlying30 Y22) ?_
          refine L.S (S.ld Tryd.underlying22) ?_
          refine L.Y Y.mv ?_
          refine L.Y (Y.ixr Tryd.underlying22 Y3) ?_
          refine L.S (S.ld Tryd.underlying3) ?_
          refine L.Y Y.mv ?_
          refine L.Y Y.bin ?_
          refine L.Y Y.bin ?_
          refine AList.nil ?_
          refine W.cond (fun hb => ?_) (fun hb => ?_)
          · have hb12 := hb
            try simp only [decide_eq_true_eq, decide_eq_false_iff_not, Bool.not_eq_true', Bool.not_eq_false', Bool.not_eq_true, Bool.not_eq_false, beq_iff_eq, bne_iff_ne, beq_eq_false_iff_ne, bne_eq_false_iff_eq, ne_eq, Decidable.not_not] at hb
            first | rw [if_pos hb12] at h | rw [if_neg (Bool.eq_false_iff.1 hb12)] at h | rw [if_pos hb] at h | rw [if_neg hb] at h | (simp only [hb, Bool.not_false, Bool.not_true, Bool.false_eq_true, if_true, if_false, reduceIte] at h)
            repeat (first | (rw [Option.ite_none_right_eq_some] at h; obtain ⟨_, h⟩ := h) | (rw [Option.ite_none_left_eq_some] at h; obtain ⟨_, h⟩ := h) | (simp only [Option.bind_some] at h))
            refine AWp.seq ?_
            refine AWp.region ?_
            refine L.Y Y.asg ?_
            refine AList.nil ?_
            repeat (first | (rw [Option.ite_none_right_eq_some] at h; obtain ⟨_, h⟩ := h) | (rw [Option.ite_none_left_eq_some] at h; obtain ⟨_, h⟩ := h) | (simp only [Option.bind_some] at h))
            obtain rfl := Option.some.inj h
            refine AWp.ret ?_
            exact ⟨.inr rfl, [(2, _)], _, ⟨rfl, rfl⟩, IsPart.at [] [] base0 .nil (E.c .nil)⟩
          · have hb12 := hb
            try simp only [decide_eq_true_eq, decide_eq_false_iff_not, Bool.not_eq_true', Bool.not_eq_false', Bool.not_eq_true, Bool.not_eq_false, beq_iff_eq, bne_iff_ne, beq_eq_false_iff_ne, bne_eq_false_iff_eq, ne_eq, Decidable.not_not] at hb
            first | rw [if_pos hb12] at h | rw [if_neg (Bool.eq_false_iff.1 hb12)] at h | rw [if_pos hb] at h | rw [if_neg hb] at h | (simp only [hb, Bool.not_false, Bool.not_true, Bool.false_eq_true, if_true, if_false, reduceIte] at h)
            repeat (first | (rw [Option.ite_none_right_eq_some] at h; obtain ⟨_, h⟩ := h) | (rw [Option.ite_none_left_eq_some] at h; obtain ⟨_, h⟩ := h) | (simp only [Option.bind_some] at h))
            refine AWp.skip ?_
            refine AWp.region ?_
            refine L.Y Y.bin ?_
            refine L.Y Y.mv ?_
            refine AList.nil ?_
            repeat (first | (rw [Option.ite_none_right_eq_some] at h; obtain ⟨_, h⟩ := h) | (rw [Option.ite_none_left_eq_some] at h; obtain ⟨_, h⟩ := h) | (simp only [Option.bind_some] at h))
            exact ⟨k9, by omega, _, _, ⟨by omega, _, _, _, _, _, _, _, _, _, rfl, rfl, h⟩, IsPart.at [] [0, 1] base0 (H.c (H.c .nil)) (E.c (E.c (E.c (E.c (E.c (E.c (E.c (E.c .nil))))))))⟩
        · have hb11 := hb
          try simp only [decide_eq_true_eq, decide_eq_false_iff_not, Bool.not_eq_true', Bool.not_eq_false', Bool.not_eq_true, Bool.not_eq_false, beq_iff_eq, bne_iff_ne, beq_eq_false_iff_ne, bne_eq_false_iff_eq, ne_eq, Decidable.not_not] at hb
          first | rw [if_pos hb11] at h | rw [if_neg (Bool.eq_false_iff.1 hb11)] at h | rw [if_pos hb] at h | rw [if_neg hb] at h | (simp only [hb, Bool.not_false, Bool.not_true, Bool.false_eq_true, if_true, if_false, reduceIte] at h)
          repeat (first | (rw [Option.ite_none_right_eq_some] at h; obtain ⟨_, h⟩ := h) | (rw [Option.ite_none_left_eq_some] at h; obtain ⟨_, h⟩ := h) | (simp only [Option.bind_some] at h))
          refine AWp.exit ?_
          refine AWp.region ?_
          refine L.Y Y.bin ?_
          refine L.Y Y.mv ?_
          refine AList.nil ?_
          repeat (first | (rw [Option.ite_none_right_eq_some] at h; obtain ⟨_, h⟩ := h) | (rw [Option.ite_none_left_eq_some] at h; obtain ⟨_, h⟩ := h) | (simp only [Option.bind_some] at h))
          exact ⟨k9, by omega, _, _, ⟨by omega, _, _, _, _, _, rfl, rfl, h⟩, IsPart.at [] [0] base0 (H.c .nil) (E.c (E.c (E.c (E.c .nil))))⟩
    · have hb5 := hb
      try simp only [decide_eq_true_eq, decide_eq_false_iff_not, Bool.not_eq_true', Bool.not_eq_false', Bool.not_eq_true, Bool.not_eq_false, beq_iff_eq, bne_iff_ne, beq_eq_false_iff_ne, bne_eq_false_iff_eq, ne_eq, Decidable.not_not] at hb
      first | rw [if_pos hb5] at h | rw [if_neg (Bool.eq_false_iff.1 hb5)] at h | rw [if_pos hb] at h | rw [if_neg hb] at h | (simp only [hb, Bool.not_false, Bool.not_true, Bool.false_eq_true, if_true, if_false, reduceIte] at h)
      repeat (first | (rw [Option.ite_none_right_eq_some] at h; obtain ⟨_, h⟩ := h) | (rw [Option.ite_none_left_eq_some] at h; obtain ⟨_, h⟩ := h) | (simp only [Option.bind_some] at h))
      refine AWp.exit ?_
      refine AWp.seq ?_
      refine AWp.region ?_
      refine L.Y Y.asg ?_
      refine AList.nil ?_
      repeat (first | (rw [Option.ite_none_right_eq_some] at h; obtain ⟨_, h⟩ := h) | (rw [Option.ite_none_left_eq_some] at h; obtain ⟨_, h⟩ := h) | (simp only [Option.bind_some] at h))
      obtain rfl := Option.some.inj h
      refine AWp.ret ?_
      exact ⟨.inr rfl, [(2, _)], _, ⟨rfl, rfl⟩, IsPart.at [] [] base0 .nil (E.c .nil)⟩

end Go.Proofs.YtpippjgphndjmaaDoor.PFnExactTableOfOrder
