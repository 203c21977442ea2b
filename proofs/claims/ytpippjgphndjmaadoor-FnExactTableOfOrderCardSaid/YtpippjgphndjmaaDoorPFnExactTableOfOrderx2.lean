-- Written by a program of this session's (wip/myprint2): the functions by the kit's print, the walks by awgen.py. Lean checks it.
import Derived.Test.YtpippjgphndjmaaDoorPFnExactTableOfOrderx0
import Derived.Test.YtpippjgphndjmaaDoorPFnExactTableOfOrderx1
namespace Go.Proofs.YtpippjgphndjmaaDoor.PFnExactTableOfOrder
open Go.RowKit Go.Proofs.YtpippjgphndjmaaDoorW.PrintWords Go.Proofs.YtpippjgphndjmaaDoorW.PrintLast Go.Proofs.YtpippjgphndjmaaDoorW.PrintMore Go.Proofs.YtpippjgphndjmaaDoorM Go.Proofs.YtpippjgphndjmaaDoorA Go.Proofs.YtpippjgphndjmaaDoorT
attribute [local go_sem] max2_int min2_int max_two min_two max_three min_three max_four min_four   -- for this text's walks alone
set_option linter.unusedVariables false
set_option linter.unusedSimpArgs false

/-! ### spec_l1Rising: function 66 -/
def spec_l1Rising.l0 : Nat → List Int → Int → Int → List Int → Int → Int → Option (Bool)
  | 0, _, _, _, _, _, _ => none
  | k + 1, x0, x1, x2, x9, x10, x11 => if x11 < x10 then (if 0 ≤ x11 then (if x11 < (x9.length : Int) then ((spec_l1In.f (rd x9 x11) x1 x2).bind fun t122 => (if t122 = true then (if x11 > 0 then (if 0 ≤ (wrap64 (x11 - 1)) then (if (wrap64 (x11 - 1)) < (x0.length : Int) then (if (rd x0 (wrap64 (x11 - 1))) ≥ (rd x9 x11) then (some false) else (spec_l1Rising.l0 k x0 x1 x2 x9 x10 (wrap64 (x11 + 1)))) else (none)) else (none)) else (spec_l1Rising.l0 k x0 x1 x2 x9 x10 (wrap64 (x11 + 1)))) else (some false))) else (none)) else (none)) else (some true)
def spec_l1Rising.f (k : Nat) (l0 : List Int) (a1 : Int) (a2 : Int) : Option (Bool) := spec_l1Rising.l0 k l0 a1 a2 l0 (l0.length : Int) 0
theorem spec_l1Rising.mono_l : ∀ k, (∀ y0 y1 y2 y3 y4 y5, LeO (spec_l1Rising.l0 k y0 y1 y2 y3 y4 y5) (spec_l1Rising.l0 (k + 1) y0 y1 y2 y3 y4 y5))
  | 0 => fun _ _ _ _ _ _ r h => by simp [spec_l1Rising.l0] at h
  | k + 1 => by
    have ih0 := spec_l1Rising.mono_l k
    · intro y0 y1 y2 y3 y4 y5
      unfold spec_l1Rising.l0
      repeat' first
      | (with_reducible exact ih0 _ _ _ _ _ _)
      | (with_reducible exact LeO.refl _)
      | (with_reducible exact LeO.none _)
      | (with_reducible refine LeO.ite ?_ ?_)
      | (with_reducible refine LeO.bind ?_ (fun _ => ?_))
      | exact ih0 _ _ _ _ _ _
      | exact LeO.none _
      | refine LeO.ite ?_ ?_
      | refine LeO.bind ?_ (fun _ => ?_)
theorem spec_l1Rising.mono : ∀ a0 a1 a2 k, LeO (spec_l1Rising.f k a0 a1 a2) (spec_l1Rising.f (k + 1) a0 a1 a2) := by
  intro a0 a1 a2 k
  have ih0 := spec_l1Rising.mono_l k
  unfold spec_l1Rising.f
  repeat' first
      | (with_reducible exact ih0 _ _ _ _ _ _)
      | (with_reducible exact LeO.refl _)
      | (with_reducible exact LeO.none _)
      | (with_reducible refine LeO.ite ?_ ?_)
      | (with_reducible refine LeO.bind ?_ (fun _ => ?_))
      | exact ih0 _ _ _ _ _ _
      | exact LeO.none _
      | refine LeO.ite ?_ ?_
      | refine LeO.bind ?_ (fun _ => ?_)
set_option maxRecDepth 100000 in
set_option maxHeartbeats 20000000 in
theorem spec_l1Rising.ac (k : Nat) (l0 : List Int) (a1 : Int) (a2 : Int) (r : Bool) (h : spec_l1Rising.f k l0 a1 a2 = some r) :
    ACalls Tryd.prog 66 [.row 1 l0.length false (ints .i64 l0), .lit (.int .i64 a1), .lit (.int .i64 a2)] [] (fun v H' => v = .lit (.bool r) ∧ H' = []) := by
  refine ACalls.ofP [6] Tryd.func66 rfl (by exact Nat.le_of_ble_eq_true rfl) rfl (by decide) ?_
  simp only [Tryd.ntmps66, env0, spec_l1Rising.f] at h ⊢
  repeat (first | (rw [Option.ite_none_right_eq_some] at h; obtain ⟨_, h⟩ := h) | (rw [Option.ite_none_left_eq_some] at h; obtain ⟨_, h⟩ := h) | (simp only [Option.bind_some] at h))
  refine AWp.seq ?_
  refine AWp.region ?_
  refine L.Y Y.asg ?_
  refine AList.nil ?_
  refine AWp.seq ?_
  refine AWp.seq ?_
  refine AWp.region ?_
  refine L.Y Y.mv ?_
  refine L.Y (Y.ln Tryd.underlying22) ?_
  refine L.Y Y.mv ?_
  refine AList.nil ?_
  refine AWp.block ?_
  repeat (first | (rw [Option.ite_none_right_eq_some] at h; obtain ⟨_, h⟩ := h) | (rw [Option.ite_none_left_eq_some] at h; obtain ⟨_, h⟩ := h) | (simp only [Option.bind_some] at h))
  refine AWp.loopI (fun kk e H => kk ≤ k ∧ ∃ (x0 : List Int) (x1 : Int) (x2 : Int) (x9 : List Int) (x10 : Int) (x11 : Int), e = [(0, .row 1 x0.length false (ints .i64 x0)), (1, .lit (.int .i64 x1)), (2, .lit (.int .i64 x2)), (9, .row 1 x9.length false (ints .i64 x9)), (10, .lit (.int .i64 x10)), (11, .lit (.int .i64 x11))] ∧ H = [] ∧ spec_l1Rising.l0 kk x0 x1 x2 x9 x10 x11 = some r) (k := k)
    ⟨_, _, ⟨Nat.le_refl _, _, _, _, _, _, _, rfl, rfl, h⟩, IsPart.at [] [] base0 .nil (E.c (E.c (E.c (E.c (E.c (E.c .nil))))))⟩ ?_
  clear h
  rintro k1 e H ⟨hk2, x0, x1, x2, x9, x10, x11, rfl, rfl, h⟩
  cases k1 with
  | zero => exact absurd h (by simp [spec_l1Rising.l0])
  | succ k1 =>
  simp only [spec_l1Rising.l0] at h
  repeat (first | (rw [Option.ite_none_right_eq_some] at h; obtain ⟨_, h⟩ := h) | (rw [Option.ite_none_left_eq_some] at h; obtain ⟨_, h⟩ := h) | (simp only [Option.bind_some] at h))
  refine AWp.seq ?_
  refine AWp.region ?_
  refine L.Y Y.bin ?_
  refine AList.nil ?_
  refine AWp.seq ?_
  refine W.cond (fun hb => ?_) (fun hb => ?_)
  · have hb3 := hb
    try simp only [decide_eq_true_eq, decide_eq_false_iff_not, Bool.not_eq_true', Bool.not_eq_false', Bool.not_eq_true, Bool.not_eq_false, beq_iff_eq, bne_iff_ne, beq_eq_false_iff_ne, bne_eq_false_iff_eq, ne_eq, Decidable.not_not] at hb
    first | rw [if_pos hb3] at h | rw [if_neg (Bool.eq_false_iff.1 hb3)] at h | rw [if_pos hb] at h | rw [if_neg hb] at h | (simp only [hb, Bool.not_false, Bool.not_true, Bool.false_eq_true, if_true, if_false, reduceIte] at h)
    repeat (first | (rw [Option.ite_none_right_eq_some] at h; obtain ⟨_, h⟩ := h) | (rw [Option.ite_none_left_eq_some] at h; obtain ⟨_, h⟩ := h) | (simp only [Option.bind_some] at h))
    refine AWp.skip ?_
    refine AWp.seq ?_
    refine AWp.block ?_
    refine AWp.seq ?_
    refine AWp.region ?_
    refine L.Y Y.mv ?_
    refine L.Y (Y.ixr Tryd.underlying22 Y3) ?_
    refine L.S (S.ld Tryd.underlying3) ?_
    refine L.Y Y.asg ?_
    refine L.Y Y.asg ?_
    refine AList.nil ?_
    refine AWp.seq ?_
    refine AWp.region ?_
    refine L.Y Y.mv ?_
    refine L.Y Y.mv ?_
    refine L.Y Y.mv ?_
    repeat (first | (rw [Option.ite_none_right_eq_some] at h; obtain ⟨_, h⟩ := h) | (rw [Option.ite_none_left_eq_some] at h; obtain ⟨_, h⟩ := h) | (simp only [Option.bind_some] at h))
    obtain ⟨t122, hc4, h⟩ := Option.bind_eq_some_iff.1 h
    repeat (first | (rw [Option.ite_none_right_eq_some] at h; obtain ⟨_, h⟩ := h) | (rw [Option.ite_none_left_eq_some] at h; obtain ⟨_, h⟩ := h) | (simp only [Option.bind_some] at h))
    refine L.C (C.callE (l := true) [] Tryd.func65 (spec_l1In.ac _ _ _ _ hc4) .nil ?_)
    refine L.Y Y.nt ?_
    refine L.Y Y.mv ?_
    refine L.Gc (fun hb => ?_) (fun hb => ?_)
    · have hb5 := hb
      try simp only [decide_eq_true_eq, decide_eq_false_iff_not, Bool.not_eq_true', Bool.not_eq_false', Bool.not_eq_true, Bool.not_eq_false, beq_iff_eq, bne_iff_ne, beq_eq_false_iff_ne, bne_eq_false_iff_eq, ne_eq, Decidable.not_not] at hb
      first | rw [if_pos hb5] at h | rw [if_neg (Bool.eq_false_iff.1 hb5)] at h | rw [if_pos hb] at h | rw [if_neg hb] at h | (simp only [hb, Bool.not_false, Bool.not_true, Bool.false_eq_true, if_true, if_false, reduceIte] at h)
      repeat (first | (rw [Option.ite_none_right_eq_some] at h; obtain ⟨_, h⟩ := h) | (rw [Option.ite_none_left_eq_some] at h; obtain ⟨_, h⟩ := h) | (simp only [Option.bind_some] at h))
      refine L.Gn hb5 ?_
      refine L.Gn hb5 ?_
      refine L.Gn hb5 ?_
      refine L.Nu ?_
      refine L.Nu ?_
      refine L.Nu ?_
      refine L.Nu ?_
      refine L.Nu ?_
      refine L.Nu ?_
      refine L.Nu ?_
      refine L.Gn hb5 ?_
      refine L.Y (Y.pk (c := true) hb5) ?_
      refine AList.nil ?_
      refine W.cond (fun hb => ?_) (fun hb => ?_)
      rotate_left
      · first | (cases hb; done) | contradiction | (simp_all; done) | (exfalso; (try simp only [decide_eq_true_eq, decide_eq_false_iff_not, Bool.not_eq_true', Bool.not_eq_false', Bool.not_eq_true, Bool.not_eq_false, beq_iff_eq, bne_iff_ne, beq_eq_false_iff_ne, bne_eq_false_iff_eq, ne_eq, Decidable.not_not] at hb); omega) | (exfalso; simp_all; omega)
      have hb6 := hb
      refine AWp.seq ?_
      refine AWp.region ?_
      refine L.Y Y.asg ?_
      refine AList.nil ?_
      repeat (first | (rw [Option.ite_none_right_eq_some] at h; obtain ⟨_, h⟩ := h) | (rw [Option.ite_none_left_eq_some] at h; obtain ⟨_, h⟩ := h) | (simp only [Option.bind_some] at h))
      obtain rfl := Option.some.inj h
      refine AWp.ret ?_
      exact ⟨.inr rfl, [(6, _)], _, ⟨rfl, rfl⟩, IsPart.at [] [] base0 .nil (E.c .nil)⟩
    · have hb5 := hb
      try simp only [decide_eq_true_eq, decide_eq_false_iff_not, Bool.not_eq_true', Bool.not_eq_false', Bool.not_eq_true, Bool.not_eq_false, beq_iff_eq, bne_iff_ne, beq_eq_false_iff_ne, bne_eq_false_iff_eq, ne_eq, Decidable.not_not] at hb
      first | rw [if_pos hb5] at h | rw [if_neg (Bool.eq_false_iff.1 hb5)] at h | rw [if_pos hb] at h | rw [if_neg hb] at h | (simp only [hb, Bool.not_false, Bool.not_true, Bool.false_eq_true, if_true, if_false, reduceIte] at h)
      repeat (first | (rw [Option.ite_none_right_eq_some] at h; obtain ⟨_, h⟩ := h) | (rw [Option.ite_none_left_eq_some] at h; obtain ⟨_, h⟩ := h) | (simp only [Option.bind_some] at h))
      refine L.Gy hb5 Y.mv ?_
      refine L.Gy hb5 Y.bin ?_
      refine L.Gy hb5 Y.mv ?_
      refine L.Gc (fun hb => ?_) (fun hb => ?_)
      · have hb7 := hb
        try simp only [decide_eq_true_eq, decide_eq_false_iff_not, Bool.not_eq_true', Bool.not_eq_false', Bool.not_eq_true, Bool.not_eq_false, beq_iff_eq, bne_iff_ne, beq_eq_false_iff_ne, bne_eq_false_iff_eq, ne_eq, Decidable.not_not] at hb
        first | rw [if_pos hb7] at h | rw [if_neg (Bool.eq_false_iff.1 hb7)] at h | rw [if_pos hb] at h | rw [if_neg hb] at h | (simp only [hb, Bool.not_false, Bool.not_true, Bool.false_eq_true, if_true, if_false, reduceIte] at h)
        repeat (first | (rw [Option.ite_none_right_eq_some] at h; obtain ⟨_, h⟩ := h) | (rw [Option.ite_none_left_eq_some] at h; obtain ⟨_, h⟩ := h) | (simp only [Option.bind_some] at h))
        refine L.Gy hb7 Y.mv ?_
        refine L.Gy hb7 Y.mv ?_
        refine L.Gy hb7 Y.bin ?_
        refine L.Gy hb7 (Y.ixr Tryd.underlying22 Y3) ?_
        refine L.Gs hb7 (S.ld Tryd.underlying3) ?_
        refine L.Gy hb7 Y.mv ?_
        refine L.Gy hb7 Y.bin ?_
        refine L.Gy hb5 (Y.pk (c := true) hb7) ?_
        refine L.Y (Y.pk (c := false) hb5) ?_
        refine AList.nil ?_
        refine W.cond (fun hb => ?_) (fun hb => ?_)
        · have hb8 := hb
          try simp only [decide_eq_true_eq, decide_eq_false_iff_not, Bool.not_eq_true', Bool.not_eq_false', Bool.not_eq_true, Bool.not_eq_false, beq_iff_eq, bne_iff_ne, beq_eq_false_iff_ne, bne_eq_false_iff_eq, ne_eq, Decidable.not_not] at hb
          first | rw [if_pos hb8] at h | rw [if_neg (Bool.eq_false_iff.1 hb8)] at h | rw [if_pos hb] at h | rw [if_neg hb] at h | (simp only [hb, Bool.not_false, Bool.not_true, Bool.false_eq_true, if_true, if_false, reduceIte] at h)
          repeat (first | (rw [Option.ite_none_right_eq_some] at h; obtain ⟨_, h⟩ := h) | (rw [Option.ite_none_left_eq_some] at h; obtain ⟨_, h⟩ := h) | (simp only [Option.bind_some] at h))
          refine AWp.seq ?_
          refine AWp.region ?_
          refine L.Y Y.asg ?_
          refine AList.nil ?_
          repeat (first | (rw [Option.ite_none_right_eq_some] at h; obtain ⟨_, h⟩ := h) | (rw [Option.ite_none_left_eq_some] at h; obtain ⟨_, h⟩ := h) | (simp only [Option.bind_some] at h))
          obtain rfl := Option.some.inj h
          refine AWp.ret ?_
          exact ⟨.inr rfl, [(6, _)], _, ⟨rfl, rfl⟩, IsPart.at [] [] base0 .nil (E.c .nil)⟩
        · have hb8 := hb
          try simp only [decide_eq_true_eq, decide_eq_false_iff_not, Bool.not_eq_true', Bool.not_eq_false', Bool.not_eq_true, Bool.not_eq_false, beq_iff_eq, bne_iff_ne, beq_eq_false_iff_ne, bne_eq_false_iff_eq, ne_eq, Decidable.not_not] at hb
          first | rw [if_pos hb8] at h | rw [if_neg (Bool.eq_false_iff.1 hb8)] at h | rw [if_pos hb] at h | rw [if_neg hb] at h | (simp only [hb, Bool.not_false, Bool.not_true, Bool.false_eq_true, if_true, if_false, reduceIte] at h)
          repeat (first | (rw [Option.ite_none_right_eq_some] at h; obtain ⟨_, h⟩ := h) | (rw [Option.ite_none_left_eq_some] at h; obtain ⟨_, h⟩ := h) | (simp only [Option.bind_some] at h))
          refine AWp.skip ?_
          refine AWp.region ?_
          refine L.Y Y.bin ?_
          refine L.Y Y.mv ?_
          refine AList.nil ?_
          repeat (first | (rw [Option.ite_none_right_eq_some] at h; obtain ⟨_, h⟩ := h) | (rw [Option.ite_none_left_eq_some] at h; obtain ⟨_, h⟩ := h) | (simp only [Option.bind_some] at h))
          exact ⟨k1, by omega, _, _, ⟨by omega, _, _, _, _, _, _, rfl, rfl, h⟩, IsPart.at [] [] base0 .nil (E.c (E.c (E.c (E.c (E.c (E.c .nil))))))⟩
      · have hb7 := hb
        try simp only [decide_eq_true_eq, decide_eq_false_iff_not, Bool.not_eq_true', Bool.not_eq_false', Bool.not_eq_true, Bool.not_eq_false, beq_iff_eq, bne_iff_ne, beq_eq_false_iff_ne, bne_eq_false_iff_eq, ne_eq, Decidable.not_not] at hb
        first | rw [if_pos hb7] at h | rw [if_neg (Bool.eq_false_iff.1 hb7)] at h | rw [if_pos hb] at h | rw [if_neg hb] at h | (simp only [hb, Bool.not_false, Bool.not_true, Bool.false_eq_true, if_true, if_false, reduceIte] at h)
        repeat (first | (rw [Option.ite_none_right_eq_some] at h; obtain ⟨_, h⟩ := h) | (rw [Option.ite_none_left_eq_some] at h; obtain ⟨_, h⟩ := h) | (simp only [Option.bind_some] at h))
        refine L.Gn hb7 ?_
        refine L.Gn hb7 ?_
        refine L.Gn hb7 ?_
        refine L.Gn hb7 ?_
        refine L.Gn hb7 ?_
        refine L.Gn hb7 ?_
        refine L.Gn hb7 ?_
        refine L.Gy hb5 (Y.pk (c := false) hb7) ?_
        refine L.Y (Y.pk (c := false) hb5) ?_
        refine AList.nil ?_
        refine W.cond (fun hb => ?_) (fun hb => ?_)
        · first | (cases hb; done) | contradiction | (simp_all; done) | (exfalso; (try simp only [decide_eq_true_eq, decide_eq_false_iff_not, Bool.not_eq_true', Bool.not_eq_false', Bool.not_eq_true, Bool.not_eq_false, beq_iff_eq, bne_iff_ne, beq_eq_false_iff_ne, bne_eq_false_iff_eq, ne_eq, Decidable.not_not] at hb); omega) | (exfalso; simp_all; omega)
        have hb9 := hb
        refine AWp.skip ?_
        refine AWp.region ?_
        refine L.Y Y.bin ?_
        refine L.Y Y.mv ?_
        refine AList.nil ?_
        repeat (first | (rw [Option.ite_none_right_eq_some] at h; obtain ⟨_, h⟩ := h) | (rw [Option.ite_none_left_eq_some] at h; obtain ⟨_, h⟩ := h) | (simp only [Option.bind_some] at h))
        exact ⟨k1, by omega, _, _, ⟨by omega, _, _, _, _, _, _, rfl, rfl, h⟩, IsPart.at [] [] base0 .nil (E.c (E.c (E.c (E.c (E.c (E.c .nil))))))⟩
  · have hb3 := hb
    try simp only [decide_eq_true_eq, decide_eq_false_iff_not, Bool.not_eq_true', Bool.not_eq_false', Bool.not_eq_true, Bool.not_eq_false, beq_iff_eq, bne_iff_ne, beq_eq_false_iff_ne, bne_eq_false_iff_eq, ne_eq, Decidable.not_not] at hb
    first | rw [if_pos hb3] at h | rw [if_neg (Bool.eq_false_iff.1 hb3)] at h | rw [if_pos hb] at h | rw [if_neg hb] at h | (simp only [hb, Bool.not_false, Bool.not_true, Bool.false_eq_true, if_true, if_false, reduceIte] at h)
    repeat (first | (rw [Option.ite_none_right_eq_some] at h; obtain ⟨_, h⟩ := h) | (rw [Option.ite_none_left_eq_some] at h; obtain ⟨_, h⟩ := h) | (simp only [Option.bind_some] at h))
    refine AWp.exit ?_
    refine AWp.seq ?_
    refine AWp.region ?_
    refine L.Y Y.asg ?_
    refine AList.nil ?_
    repeat (first | (rw [Option.ite_none_right_eq_some] at h; obtain ⟨_, h⟩ := h) | (rw [Option.ite_none_left_eq_some] at h; obtain ⟨_, h⟩ := h) | (simp only [Option.bind_some] at h))
    obtain rfl := Option.some.inj h
    refine AWp.ret ?_
    exact ⟨.inr rfl, [(6, _)], _, ⟨rfl, rfl⟩, IsPart.at [] [] base0 .nil (E.c .nil)⟩

/-! ### spec_TableOfOrder: function 11 -/
mutual
def spec_TableOfOrder.j0 : Nat → List Int → List Int → Bool → Int → List Int → Option (Int × Int × List Int × Bool)
  | 0, _, _, _, _, _ => none
  | k + 1, x1, x2, x44, x125000, x125001 => if x44 = true then (some (0, 0, ([] : List Int), false)) else (spec_TableOfOrder.l0 k x2 x1 (x1.length : Int) 0 x125000 x125001 (x1.length : Int) (x2.length : Int) ([] : List Int))
def spec_TableOfOrder.l0 : Nat → List Int → List Int → Int → Int → Int → List Int → Int → Int → List Int → Option (Int × Int × List Int × Bool)
  | 0, _, _, _, _, _, _, _, _, _ => none
  | k + 1, x2, x51, x52, x53, x125000, x125001, x132000, x132001, x132002 => if x53 < x52 then (if 0 ≤ x53 then (if x53 < (x51.length : Int) then (spec_TableOfOrder.l1 k x2 (rd x51 x53) 0 x51 x52 x53 x2 (x2.length : Int) 0 x125000 x125001 x132000 x132001 x132002) else (none)) else (none)) else (some (x132000, x132001, x132002, true))
def spec_TableOfOrder.l1 : Nat → List Int → Int → Int → List Int → Int → Int → List Int → Int → Int → Int → List Int → Int → Int → List Int → Option (Int × Int × List Int × Bool)
  | 0, _, _, _, _, _, _, _, _, _, _, _, _, _, _ => none
  | k + 1, x2, x10, x11, x51, x52, x53, x57, x58, x59, x125000, x125001, x132000, x132001, x132002 => if x59 < x58 then (if 0 ≤ x59 then (if x59 < (x57.length : Int) then (if 0 ≤ x10 then (if x10 < (x125001.length : Int) then ((spec_orHas.f (rd x125001 x10) (rd x57 x59)).bind fun t135 => (if t135 = true then (spec_TableOfOrder.l1 k x2 x10 (Go.bits .or .i64 x11 (shl .i64 1 x59)) x51 x52 x53 x57 x58 (wrap64 (x59 + 1)) x125000 x125001 x132000 x132001 x132002) else (spec_TableOfOrder.l1 k x2 x10 x11 x51 x52 x53 x57 x58 (wrap64 (x59 + 1)) x125000 x125001 x132000 x132001 x132002))) else (none)) else (none)) else (none)) else (none)) else (if x132002.length < 17592186044416 then (spec_TableOfOrder.l0 k x2 x51 x52 (wrap64 (x53 + 1)) x125000 x125001 x132000 x132001 (x132002 ++ [x11])) else (none))
end
def spec_TableOfOrder.f (k : Nat) (a0_0 : Int) (l0_1 : List Int) (l1 : List Int) (l2 : List Int) : Option (Int × Int × List Int × Bool) := (spec_orGood.f k a0_0 l0_1).bind fun t126 => (if t126 = true then ((spec_l1In.f (l1.length : Int) 1 6).bind fun t127 => (if t127 = true then ((spec_l1In.f (l2.length : Int) 1 6).bind fun t128 => (if t128 = true then ((spec_l1Rising.f k l1 0 (wrap64 (a0_0 - 1))).bind fun t129 => (if t129 = true then ((spec_l1Rising.f k l2 0 (wrap64 (a0_0 - 1))).bind fun t130 => (spec_TableOfOrder.j0 k l1 l2 (!t130) a0_0 l0_1)) else (spec_TableOfOrder.j0 k l1 l2 true a0_0 l0_1))) else (spec_TableOfOrder.j0 k l1 l2 true a0_0 l0_1))) else (spec_TableOfOrder.j0 k l1 l2 true a0_0 l0_1))) else (spec_TableOfOrder.j0 k l1 l2 true a0_0 l0_1))
theorem spec_TableOfOrder.mono_l : ∀ k, (∀ y0 y1 y2 y3 y4, LeO (spec_TableOfOrder.j0 k y0 y1 y2 y3 y4) (spec_TableOfOrder.j0 (k + 1) y0 y1 y2 y3 y4)) ∧ (∀ y0 y1 y2 y3 y4 y5 y6 y7 y8, LeO (spec_TableOfOrder.l0 k y0 y1 y2 y3 y4 y5 y6 y7 y8) (spec_TableOfOrder.l0 (k + 1) y0 y1 y2 y3 y4 y5 y6 y7 y8)) ∧ (∀ y0 y1 y2 y3 y4 y5 y6 y7 y8 y9 y10 y11 y12 y13, LeO (spec_TableOfOrder.l1 k y0 y1 y2 y3 y4 y5 y6 y7 y8 y9 y10 y11 y12 y13) (spec_TableOfOrder.l1 (k + 1) y0 y1 y2 y3 y4 y5 y6 y7 y8 y9 y10 y11 y12 y13))
  | 0 => ⟨fun _ _ _ _ _ r h => by simp [spec_TableOfOrder.j0] at h, fun _ _ _ _ _ _ _ _ _ r h => by simp [spec_TableOfOrder.l0] at h, fun _ _ _ _ _ _ _ _ _ _ _ _ _ _ r h => by simp [spec_TableOfOrder.l1] at h⟩
  | k + 1 => by
    obtain ⟨ih0, ih1, ih2⟩ := spec_TableOfOrder.mono_l k
    refine ⟨?_, ?_, ?_⟩
    · intro y0 y1 y2 y3 y4
      unfold spec_TableOfOrder.j0
      repeat' first
      | (with_reducible exact ih0 _ _ _ _ _)
      | (with_reducible exact ih1 _ _ _ _ _ _ _ _ _)
      | (with_reducible exact ih2 _ _ _ _ _ _ _ _ _ _ _ _ _ _)
      | (with_reducible exact spec_l1Rising.mono _ _ _ _)
      | (with_reducible exact spec_orGood.mono _ _ _)
      | (with_reducible exact LeO.refl _)
      | (with_reducible exact LeO.none _)
      | (with_reducible refine LeO.ite ?_ ?_)
      | (with_reducible refine LeO.bind ?_ (fun _ => ?_))
      | exact ih0 _ _ _ _ _
      | exact ih1 _ _ _ _ _ _ _ _ _
      | exact ih2 _ _ _ _ _ _ _ _ _ _ _ _ _ _
      | exact spec_l1Rising.mono _ _ _ _
      | exact spec_orGood.mono _ _ _
      | exact LeO.none _
      | refine LeO.ite ?_ ?_
      | refine LeO.bind ?_ (fun _ => ?_)
    · intro y0 y1 y2 y3 y4 y5 y6 y7 y8
      unfold spec_TableOfOrder.l0
      repeat' first
      | (with_reducible exact ih0 _ _ _ _ _)
      | (with_reducible exact ih1 _ _ _ _ _ _ _ _ _)
      | (with_reducible exact ih2 _ _ _ _ _ _ _ _ _ _ _ _ _ _)
      | (with_reducible exact spec_l1Rising.mono _ _ _ _)
      | (with_reducible exact spec_orGood.mono _ _ _)
      | (with_reducible exact LeO.refl _)
      | (with_reducible exact LeO.none _)
      | (with_reducible refine LeO.ite ?_ ?_)
      | (with_reducible refine LeO.bind ?_ (fun _ => ?_))
      | exact ih0 _ _ _ _ _
      | exact ih1 _ _ _ _ _ _ _ _ _
      | exact ih2 _ _ _ _ _ _ _ _ _ _ _ _ _ _
      | exact spec_l1Rising.mono _ _ _ _
      | exact spec_orGood.mono _ _ _
      | exact LeO.none _
      | refine LeO.ite ?_ ?_
      | refine LeO.bind ?_ (fun _ => ?_)
    · intro y0 y1 y2 y3 y4 y5 y6 y7 y8 y9 y10 y11 y12 y13
      unfold spec_TableOfOrder.l1
      repeat' first
      | (with_reducible exact ih0 _ _ _ _ _)
      | (with_reducible exact ih1 _ _ _ _ _ _ _ _ _)
      | (with_reducible exact ih2 _ _ _ _ _ _ _ _ _ _ _ _ _ _)
      | (with_reducible exact spec_l1Rising.mono _ _ _ _)
      | (with_reducible exact spec_orGood.mono _ _ _)
      | (with_reducible exact LeO.refl _)
      | (with_reducible exact LeO.none _)
      | (with_reducible refine LeO.ite ?_ ?_)
      | (with_reducible refine LeO.bind ?_ (fun _ => ?_))
      | exact ih0 _ _ _ _ _
      | exact ih1 _ _ _ _ _ _ _ _ _
      | exact ih2 _ _ _ _ _ _ _ _ _ _ _ _ _ _
      | exact spec_l1Rising.mono _ _ _ _
      | exact spec_orGood.mono _ _ _
      | exact LeO.none _
      | refine LeO.ite ?_ ?_
      | refine LeO.bind ?_ (fun _ => ?_)
theorem spec_TableOfOrder.mono : ∀ a0 a1 a2 a3 k, LeO (spec_TableOfOrder.f k a0 a1 a2 a3) (spec_TableOfOrder.f (k + 1) a0 a1 a2 a3) := by
  intro a0 a1 a2 a3 k
  obtain ⟨ih0, ih1, ih2⟩ := spec_TableOfOrder.mono_l k
  unfold spec_TableOfOrder.f
  repeat' first
      | (with_reducible exact ih0 _ _ _ _ _)
      | (with_reducible exact ih1 _ _ _ _ _ _ _ _ _)
      | (with_reducible exact ih2 _ _ _ _ _ _ _ _ _ _ _ _ _ _)
      | (with_reducible exact spec_l1Rising.mono _ _ _ _)
      | (with_reducible exact spec_orGood.mono _ _ _)
      | (with_reducible exact LeO.refl _)
      | (with_reducible exact LeO.none _)
      | (with_reducible refine LeO.ite ?_ ?_)
      | (with_reducible refine LeO.bind ?_ (fun _ => ?_))
      | exact ih0 _ _ _ _ _
      | exact ih1 _ _ _ _ _ _ _ _ _
      | exact ih2 _ _ _ _ _ _ _ _ _ _ _ _ _ _
      | exact spec_l1Rising.mono _ _ _ _
      | exact spec_orGood.mono _ _ _
      | exact LeO.none _
      | refine LeO.ite ?_ ?_
      | refine LeO.bind ?_ (fun _ => ?_)
set_option maxRecDepth 100000 in
set_option maxHeartbeats 20000000 in
theorem spec_TableOfOrder.ac (k : Nat) (a0_0 : Int) (l0_1 : List Int) (l1 : List Int) (l2 : List Int) (r1 : Int) (r2 : Int) (r3 : List Int) (r4 : Bool) (h : spec_TableOfOrder.f k a0_0 l0_1 l1 l2 = some (r1, r2, r3, r4)) :
    ACalls Tryd.prog 11 [.agg [.lit (.int .i64 a0_0), .row 1 l0_1.length false (ints .i64 l0_1)], .row 1 l1.length false (ints .i64 l1), .row 1 l2.length false (ints .i64 l2)] [] (fun v H' => v = .tup [.agg [.lit (.int .i64 r1), .lit (.int .i64 r2), .own 0 r3.length], .lit (.bool r4)] ∧ H' = [.sl 3 1 r3.length false (ints .i64 r3)]) := by
  refine ACalls.ofV Tryd.func11 rfl (by exact Nat.le_of_ble_eq_true rfl) ?_
  simp only [Tryd.ntmps11, env0, spec_TableOfOrder.f] at h ⊢
  repeat (first | (rw [Option.ite_none_right_eq_some] at h; obtain ⟨_, h⟩ := h) | (rw [Option.ite_none_left_eq_some] at h; obtain ⟨_, h⟩ := h) | (simp only [Option.bind_some] at h))
  refine AWp.seq ?_
  refine AWp.region ?_
  refine L.M M.bx ?_
  refine L.M (M.al Y27) ?_
  refine L.Y Y.asg ?_
  refine AList.nil ?_
  refine AWp.seq ?_
  refine AWp.seq ?_
  refine AWp.region ?_
  refine L.S (S.ldN Tryd.underlying30 Y30) ?_
  repeat (first | (rw [Option.ite_none_right_eq_some] at h; obtain ⟨_, h⟩ := h) | (rw [Option.ite_none_left_eq_some] at h; obtain ⟨_, h⟩ := h) | (simp only [Option.bind_some] at h))
  obtain ⟨t126, hc1, h⟩ := Option.bind_eq_some_iff.1 h
  repeat (first | (rw [Option.ite_none_right_eq_some] at h; obtain ⟨_, h⟩ := h) | (rw [Option.ite_none_left_eq_some] at h; obtain ⟨_, h⟩ := h) | (simp only [Option.bind_some] at h))
  refine L.C (C.callE (l := true) [] Tryd.func64 (spec_orGood.ac _ _ _ _ hc1) .nil ?_)
  refine L.Y Y.nt ?_
  refine L.Y Y.mv ?_
  refine L.Gc (fun hb => ?_) (fun hb => ?_)
  · have hb2 := hb
    try simp only [decide_eq_true_eq, decide_eq_false_iff_not, Bool.not_eq_true', Bool.not_eq_false', Bool.not_eq_true, Bool.not_eq_false, beq_iff_eq, bne_iff_ne, beq_eq_false_iff_ne, bne_eq_false_iff_eq, ne_eq, Decidable.not_not] at hb
    first | rw [if_pos hb2] at h | rw [if_neg (Bool.eq_false_iff.1 hb2)] at h | rw [if_pos hb] at h | rw [if_neg hb] at h | (simp only [hb, Bool.not_false, Bool.not_true, Bool.false_eq_true, if_true, if_false, reduceIte] at h)
    repeat (first | (rw [Option.ite_none_right_eq_some] at h; obtain ⟨_, h⟩ := h) | (rw [Option.ite_none_left_eq_some] at h; obtain ⟨_, h⟩ := h) | (simp only [Option.bind_some] at h))
    refine L.Gn hb2 ?_
    refine L.Gn hb2 ?_
    refine L.Gn hb2 ?_
    refine L.Gn hb2 ?_
    refine L.Y (Y.pk (c := true) hb2) ?_
    refine L.Y Y.mv ?_
    refine L.Gc (fun hb => ?_) (fun hb => ?_)
    rotate_left
    · first | (cases hb; done) | contradiction | (simp_all; done) | (exfalso; (try simp only [decide_eq_true_eq, decide_eq_false_iff_not, Bool.not_eq_true', Bool.not_eq_false', Bool.not_eq_true, Bool.not_eq_false, beq_iff_eq, bne_iff_ne, beq_eq_false_iff_ne, bne_eq_false_iff_eq, ne_eq, Decidable.not_not] at hb); omega) | (exfalso; simp_all; omega)
    have hb3 := hb
    refine L.Gn hb3 ?_
    refine L.Gn hb3 ?_
    refine L.Gn hb3 ?_
    refine L.Gn hb3 ?_
    refine L.Y (Y.pk (c := true) hb3) ?_
    refine L.Y Y.mv ?_
    refine L.Gc (fun hb => ?_) (fun hb => ?_)
    rotate_left
    · first | (cases hb; done) | contradiction | (simp_all; done) | (exfalso; (try simp only [decide_eq_true_eq, decide_eq_false_iff_not, Bool.not_eq_true', Bool.not_eq_false', Bool.not_eq_true, Bool.not_eq_false, beq_iff_eq, bne_iff_ne, beq_eq_false_iff_ne, bne_eq_false_iff_eq, ne_eq, Decidable.not_not] at hb); omega) | (exfalso; simp_all; omega)
    have hb4 := hb
    refine L.Gn hb4 ?_
    refine L.Gn hb4 ?_
    refine L.Gn hb4 ?_
    refine L.Gn hb4 ?_
    refine L.Gn hb4 ?_
    refine L.Gn hb4 ?_
    refine L.Y (Y.pk (c := true) hb4) ?_
    refine L.Y Y.mv ?_
    refine L.Gc (fun hb => ?_) (fun hb => ?_)
    rotate_left
    · first | (cases hb; done) | contradiction | (simp_all; done) | (exfalso; (try simp only [decide_eq_true_eq, decide_eq_false_iff_not, Bool.not_eq_true', Bool.not_eq_false', Bool.not_eq_true, Bool.not_eq_false, beq_iff_eq, bne_iff_ne, beq_eq_false_iff_ne, bne_eq_false_iff_eq, ne_eq, Decidable.not_not] at hb); omega) | (exfalso; simp_all; omega)
    have hb5 := hb
    refine L.Gn hb5 ?_
    refine L.Gn hb5 ?_
    refine L.Gn hb5 ?_
    refine L.Gn hb5 ?_
    refine L.Gn hb5 ?_
    refine L.Gn hb5 ?_
    refine L.Y (Y.pk (c := true) hb5) ?_
    refine AList.nil ?_
    rcases k with _ | k
    · exact absurd h (by simp [spec_TableOfOrder.j0])
    simp only [spec_TableOfOrder.j0] at h
    repeat (first | (rw [Option.ite_none_right_eq_some] at h; obtain ⟨_, h⟩ := h) | (rw [Option.ite_none_left_eq_some] at h; obtain ⟨_, h⟩ := h) | (simp only [Option.bind_some] at h))
    refine W.cond (fun hb => ?_) (fun hb => ?_)
    rotate_left
    · first | (cases hb; done) | contradiction | (simp_all; done) | (exfalso; (try simp only [decide_eq_true_eq, decide_eq_false_iff_not, Bool.not_eq_true', Bool.not_eq_false', Bool.not_eq_true, Bool.not_eq_false, beq_iff_eq, bne_iff_ne, beq_eq_false_iff_ne, bne_eq_false_iff_eq, ne_eq, Decidable.not_not] at hb); omega) | (exfalso; simp_all; omega)
    have hb6 := hb
    try (first | rw [if_pos hb6] at h | rw [if_neg (Bool.eq_false_iff.1 hb6)] at h | rw [if_pos hb] at h | rw [if_neg hb] at h | (simp only [hb, Bool.not_false, Bool.not_true, Bool.false_eq_true, if_true, if_false, reduceIte] at h))
    repeat (first | (rw [Option.ite_none_right_eq_some] at h; obtain ⟨_, h⟩ := h) | (rw [Option.ite_none_left_eq_some] at h; obtain ⟨_, h⟩ := h) | (simp only [Option.bind_some] at h))
    refine AWp.seq ?_
    refine AWp.region ?_
    refine L.Y (Y.bd Tryd.underlying27 Y27 P27) ?_
    refine L.S (S.stb Y27) ?_
    refine L.Y Y.asg ?_
    refine AList.nil ?_
    repeat (first | (rw [Option.ite_none_right_eq_some] at h; obtain ⟨_, h⟩ := h) | (rw [Option.ite_none_left_eq_some] at h; obtain ⟨_, h⟩ := h) | (simp only [Option.bind_some] at h))
    simp only [Option.some.injEq, Prod.mk.injEq] at h
    obtain ⟨rfl, rfl, rfl, rfl⟩ := h
    refine AWp.ret ?_
    exact ⟨.inr rfl, _, _, _, Res.c2 Tryd.underlying27 Y27, ⟨rfl, rfl⟩, PartV.at [(3, 1)] [2] base0 (H.c .nil)⟩
  · have hb2 := hb
    try simp only [decide_eq_true_eq, decide_eq_false_iff_not, Bool.not_eq_true', Bool.not_eq_false', Bool.not_eq_true, Bool.not_eq_false, beq_iff_eq, bne_iff_ne, beq_eq_false_iff_ne, bne_eq_false_iff_eq, ne_eq, Decidable.not_not] at hb
    first | rw [if_pos hb2] at h | rw [if_neg (Bool.eq_false_iff.1 hb2)] at h | rw [if_pos hb] at h | rw [if_neg hb] at h | (simp only [hb, Bool.not_false, Bool.not_true, Bool.false_eq_true, if_true, if_false, reduceIte] at h)
    repeat (first | (rw [Option.ite_none_right_eq_some] at h; obtain ⟨_, h⟩ := h) | (rw [Option.ite_none_left_eq_some] at h; obtain ⟨_, h⟩ := h) | (simp only [Option.bind_some] at h))
    refine L.Gy hb2 Y.mv ?_
    refine L.Gy hb2 (Y.ln Tryd.underlying22) ?_
    repeat (first | (rw [Option.ite_none_right_eq_some] at h; obtain ⟨_, h⟩ := h) | (rw [Option.ite_none_left_eq_some] at h; obtain ⟨_, h⟩ := h) | (simp only [Option.bind_some] at h))
    obtain ⟨t127, hc7, h⟩ := Option.bind_eq_some_iff.1 h
    repeat (first | (rw [Option.ite_none_right_eq_some] at h; obtain ⟨_, h⟩ := h) | (rw [Option.ite_none_left_eq_some] at h; obtain ⟨_, h⟩ := h) | (simp only [Option.bind_some] at h))
    refine L.GC hb2 (C.callE (l := true) [] Tryd.func65 (spec_l1In.ac _ _ _ _ hc7) .nil ?_)
    refine L.Gy hb2 Y.nt ?_
    refine L.Y (Y.pk (c := false) hb2) ?_
    refine L.Y Y.mv ?_
    refine L.Gc (fun hb => ?_) (fun hb => ?_)
    · have hb8 := hb
      try simp only [decide_eq_true_eq, decide_eq_false_iff_not, Bool.not_eq_true', Bool.not_eq_false', Bool.not_eq_true, Bool.not_eq_false, beq_iff_eq, bne_iff_ne, beq_eq_false_iff_ne, bne_eq_false_iff_eq, ne_eq, Decidable.not_not] at hb
      first | rw [if_pos hb8] at h | rw [if_neg (Bool.eq_false_iff.1 hb8)] at h | rw [if_pos hb] at h | rw [if_neg hb] at h | (simp only [hb, Bool.not_false, Bool.not_true, Bool.false_eq_true, if_true, if_false, reduceIte] at h)
      repeat (first | (rw [Option.ite_none_right_eq_some] at h; obtain ⟨_, h⟩ := h) | (rw [Option.ite_none_left_eq_some] at h; obtain ⟨_, h⟩ := h) | (simp only [Option.bind_some] at h))
      refine L.Gn hb8 ?_
      refine L.Gn hb8 ?_
      refine L.Gn hb8 ?_
      refine L.Gn hb8 ?_
      refine L.Y (Y.pk (c := true) hb8) ?_
      refine L.Y Y.mv ?_
      refine L.Gc (fun hb => ?_) (fun hb => ?_)
      rotate_left
      · first | (cases hb; done) | contradiction | (simp_all; done) | (exfalso; (try simp only [decide_eq_true_eq, decide_eq_false_iff_not, Bool.not_eq_true', Bool.not_eq_false', Bool.not_eq_true, Bool.not_eq_false, beq_iff_eq, bne_iff_ne, beq_eq_false_iff_ne, bne_eq_false_iff_eq, ne_eq, Decidable.not_not] at hb); omega) | (exfalso; simp_all; omega)
      have hb9 := hb
      refine L.Gn hb9 ?_
      refine L.Gn hb9 ?_
      refine L.Gn hb9 ?_
      refine L.Gn hb9 ?_
      refine L.Gn hb9 ?_
      refine L.Gn hb9 ?_
      refine L.Y (Y.pk (c := true) hb9) ?_
      refine L.Y Y.mv ?_
      refine L.Gc (fun hb => ?_) (fun hb => ?_)
      rotate_left
      · first | (cases hb; done) | contradiction | (simp_all; done) | (exfalso; (try simp only [decide_eq_true_eq, decide_eq_false_iff_not, Bool.not_eq_true', Bool.not_eq_false', Bool.not_eq_true, Bool.not_eq_false, beq_iff_eq, bne_iff_ne, beq_eq_false_iff_ne, bne_eq_false_iff_eq, ne_eq, Decidable.not_not] at hb); omega) | (exfalso; simp_all; omega)
      have hb10 := hb
      refine L.Gn hb10 ?_
      refine L.Gn hb10 ?_
      refine L.Gn hb10 ?_
      refine L.Gn hb10 ?_
      refine L.Gn hb10 ?_
      refine L.Gn hb10 ?_
      refine L.Y (Y.pk (c := true) hb10) ?_
      refine AList.nil ?_
      rcases k with _ | k
      · exact absurd h (by simp [spec_TableOfOrder.j0])
      simp only [spec_TableOfOrder.j0] at h
      repeat (first | (rw [Option.ite_none_right_eq_some] at h; obtain ⟨_, h⟩ := h) | (rw [Option.ite_none_left_eq_some] at h; obtain ⟨_, h⟩ := h) | (simp only [Option.bind_some] at h))
      refine W.cond (fun hb => ?_) (fun hb => ?_)
      rotate_left
      · first | (cases hb; done) | contradiction | (simp_all; done) | (exfalso; (try simp only [decide_eq_true_eq, decide_eq_false_iff_not, Bool.not_eq_true', Bool.not_eq_false', Bool.not_eq_true, Bool.not_eq_false, beq_iff_eq, bne_iff_ne, beq_eq_false_iff_ne, bne_eq_false_iff_eq, ne_eq, Decidable.not_not] at hb); omega) | (exfalso; simp_all; omega)
      have hb11 := hb
      try (first | rw [if_pos hb11] at h | rw [if_neg (Bool.eq_false_iff.1 hb11)] at h | rw [if_pos hb] at h | rw [if_neg hb] at h | (simp only [hb, Bool.not_false, Bool.not_true, Bool.false_eq_true, if_true, if_false, reduceIte] at h))
      repeat (first | (rw [Option.ite_none_right_eq_some] at h; obtain ⟨_, h⟩ := h) | (rw [Option.ite_none_left_eq_some] at h; obtain ⟨_, h⟩ := h) | (simp only [Option.bind_some] at h))
      refine AWp.seq ?_
      refine AWp.region ?_
      refine L.Y (Y.bd Tryd.underlying27 Y27 P27) ?_
      refine L.S (S.stb Y27) ?_
      refine L.Y Y.asg ?_
      refine AList.nil ?_
      repeat (first | (rw [Option.ite_none_right_eq_some] at h; obtain ⟨_, h⟩ := h) | (rw [Option.ite_none_left_eq_some] at h; obtain ⟨_, h⟩ := h) | (simp only [Option.bind_some] at h))
      simp only [Option.some.injEq, Prod.mk.injEq] at h
      obtain ⟨rfl, rfl, rfl, rfl⟩ := h
      refine AWp.ret ?_
      exact ⟨.inr rfl, _, _, _, Res.c2 Tryd.underlying27 Y27, ⟨rfl, rfl⟩, PartV.at [(3, 1)] [2] base0 (H.c .nil)⟩
    · have hb8 := hb
      try simp only [decide_eq_true_eq, decide_eq_false_iff_not, Bool.not_eq_true', Bool.not_eq_false', Bool.not_eq_true, Bool.not_eq_false, beq_iff_eq, bne_iff_ne, beq_eq_false_iff_ne, bne_eq_false_iff_eq, ne_eq, Decidable.not_not] at hb
      first | rw [if_pos hb8] at h | rw [if_neg (Bool.eq_false_iff.1 hb8)] at h | rw [if_pos hb] at h | rw [if_neg hb] at h | (simp only [hb, Bool.not_false, Bool.not_true, Bool.false_eq_true, if_true, if_false, reduceIte] at h)
      repeat (first | (rw [Option.ite_none_right_eq_some] at h; obtain ⟨_, h⟩ := h) | (rw [Option.ite_none_left_eq_some] at h; obtain ⟨_, h⟩ := h) | (simp only [Option.bind_some] at h))
      refine L.Gy hb8 Y.mv ?_
      refine L.Gy hb8 (Y.ln Tryd.underlying22) ?_
      repeat (first | (rw [Option.ite_none_right_eq_some] at h; obtain ⟨_, h⟩ := h) | (rw [Option.ite_none_left_eq_some] at h; obtain ⟨_, h⟩ := h) | (simp only [Option.bind_some] at h))
      obtain ⟨t128, hc12, h⟩ := Option.bind_eq_some_iff.1 h
      repeat (first | (rw [Option.ite_none_right_eq_some] at h; obtain ⟨_, h⟩ := h) | (rw [Option.ite_none_left_eq_some] at h; obtain ⟨_, h⟩ := h) | (simp only [Option.bind_some] at h))
      refine L.GC hb8 (C.callE (l := true) [] Tryd.func65 (spec_l1In.ac _ _ _ _ hc12) .nil ?_)
      refine L.Gy hb8 Y.nt ?_
      refine L.Y (Y.pk (c := false) hb8) ?_
      refine L.Y Y.mv ?_
      refine L.Gc (fun hb => ?_) (fun hb => ?_)
      · have hb13 := hb
        try simp only [decide_eq_true_eq, decide_eq_false_iff_not, Bool.not_eq_true', Bool.not_eq_false', Bool.not_eq_true, Bool.not_eq_false, beq_iff_eq, bne_iff_ne, beq_eq_false_iff_ne, bne_eq_false_iff_eq, ne_eq, Decidable.not_not] at hb
        first | rw [if_pos hb13] at h | rw [if_neg (Bool.eq_false_iff.1 hb13)] at h | rw [if_pos hb] at h | rw [if_neg hb] at h | (simp only [hb, Bool.not_false, Bool.not_true, Bool.false_eq_true, if_true, if_false, reduceIte] at h)
        repeat (first | (rw [Option.ite_none_right_eq_some] at h; obtain ⟨_, h⟩ := h) | (rw [Option.ite_none_left_eq_some] at h; obtain ⟨_, h⟩ := h) | (simp only [Option.bind_some] at h))
        refine L.Gn hb13 ?_
        refine L.Gn hb13 ?_
        refine L.Gn hb13 ?_
        refine L.Gn hb13 ?_
        refine L.Gn hb13 ?_
        refine L.Gn hb13 ?_
        refine L.Y (Y.pk (c := true) hb13) ?_
        refine L.Y Y.mv ?_
        refine L.Gc (fun hb => ?_) (fun hb => ?_)
        rotate_left
        · first | (cases hb; done) | contradiction | (simp_all; done) | (exfalso; (try simp only [decide_eq_true_eq, decide_eq_false_iff_not, Bool.not_eq_true', Bool.not_eq_false', Bool.not_eq_true, Bool.not_eq_false, beq_iff_eq, bne_iff_ne, beq_eq_false_iff_ne, bne_eq_false_iff_eq, ne_eq, Decidable.not_not] at hb); omega) | (exfalso; simp_all; omega)
        have hb14 := hb
        refine L.Gn hb14 ?_
        refine L.Gn hb14 ?_
        refine L.Gn hb14 ?_
        refine L.Gn hb14 ?_
        refine L.Gn hb14 ?_
        refine L.Gn hb14 ?_
        refine L.Y (Y.pk (c := true) hb14) ?_
        refine AList.nil ?_
        rcases k with _ | k
        · exact absurd h (by simp [spec_TableOfOrder.j0])
        simp only [spec_TableOfOrder.j0] at h
        repeat (first | (rw [Option.ite_none_right_eq_some] at h; obtain ⟨_, h⟩ := h) | (rw [Option.ite_none_left_eq_some] at h; obtain ⟨_, h⟩ := h) | (simp only [Option.bind_some] at h))
        refine W.cond (fun hb => ?_) (fun hb => ?_)
        rotate_left
        · first | (cases hb; done) | contradiction | (simp_all; done) | (exfalso; (try simp only [decide_eq_true_eq, decide_eq_false_iff_not, Bool.not_eq_true', Bool.not_eq_false', Bool.not_eq_true, Bool.not_eq_false, beq_iff_eq, bne_iff_ne, beq_eq_false_iff_ne, bne_eq_false_iff_eq, ne_eq, Decidable.not_not] at hb); omega) | (exfalso; simp_all; omega)
        have hb15 := hb
        try (first | rw [if_pos hb15] at h | rw [if_neg (Bool.eq_false_iff.1 hb15)] at h | rw [if_pos hb] at h | rw [if_neg hb] at h | (simp only [hb, Bool.not_false, Bool.not_true, Bool.false_eq_true, if_true, if_false, reduceIte] at h))
        repeat (first | (rw [Option.ite_none_right_eq_some] at h; obtain ⟨_, h⟩ := h) | (rw [Option.ite_none_left_eq_some] at h; obtain ⟨_, h⟩ := h) | (simp only [Option.bind_some] at h))
        refine AWp.seq ?_
        refine AWp.region ?_
        refine L.Y (Y.bd Tryd.underlying27 Y27 P27) ?_
        refine L.S (S.stb Y27) ?_
        refine L.Y Y.asg ?_
        refine AList.nil ?_
        repeat (first | (rw [Option.ite_none_right_eq_some] at h; obtain ⟨_, h⟩ := h) | (rw [Option.ite_none_left_eq_some] at h; obtain ⟨_, h⟩ := h) | (simp only [Option.bind_some] at h))
        simp only [Option.some.injEq, Prod.mk.injEq] at h
        obtain ⟨rfl, rfl, rfl, rfl⟩ := h
        refine AWp.ret ?_
        exact ⟨.inr rfl, _, _, _, Res.c2 Tryd.underlying27 Y27, ⟨rfl, rfl⟩, PartV.at [(3, 1)] [2] base0 (H.c .nil)⟩
      · have hb13 := hb
        try simp only [decide_eq_true_eq, decide_eq_false_iff_not, Bool.not_eq_true', Bool.not_eq_false', Bool.not_eq_true, Bool.not_eq_false, beq_iff_eq, bne_iff_ne, beq_eq_false_iff_ne, bne_eq_false_iff_eq, ne_eq, Decidable.not_not] at hb
        first | rw [if_pos hb13] at h | rw [if_neg (Bool.eq_false_iff.1 hb13)] at h | rw [if_pos hb] at h | rw [if_neg hb] at h | (simp only [hb, Bool.not_false, Bool.not_true, Bool.false_eq_true, if_true, if_false, reduceIte] at h)
        repeat (first | (rw [Option.ite_none_right_eq_some] at h; obtain ⟨_, h⟩ := h) | (rw [Option.ite_none_left_eq_some] at h; obtain ⟨_, h⟩ := h) | (simp only [Option.bind_some] at h))
        refine L.Gy hb13 Y.mv ?_
        refine L.Gy hb13 (Y.fa (off := 0) Tryd.underlying30 Y3) ?_
        refine L.Gs hb13 (S.ld Tryd.underlying3) ?_
        refine L.Gy hb13 Y.bin ?_
        repeat (first | (rw [Option.ite_none_right_eq_some] at h; obtain ⟨_, h⟩ := h) | (rw [Option.ite_none_left_eq_some] at h; obtain ⟨_, h⟩ := h) | (simp only [Option.bind_some] at h))
        obtain ⟨t129, hc16, h⟩ := Option.bind_eq_some_iff.1 h
        repeat (first | (rw [Option.ite_none_right_eq_some] at h; obtain ⟨_, h⟩ := h) | (rw [Option.ite_none_left_eq_some] at h; obtain ⟨_, h⟩ := h) | (simp only [Option.bind_some] at h))
        refine L.GC hb13 (C.callE (l := true) [] Tryd.func66 (spec_l1Rising.ac _ _ _ _ _ hc16) .nil ?_)
        refine L.Gy hb13 Y.nt ?_
        refine L.Y (Y.pk (c := false) hb13) ?_
        refine L.Y Y.mv ?_
        refine L.Gc (fun hb => ?_) (fun hb => ?_)
        · have hb17 := hb
          try simp only [decide_eq_true_eq, decide_eq_false_iff_not, Bool.not_eq_true', Bool.not_eq_false', Bool.not_eq_true, Bool.not_eq_false, beq_iff_eq, bne_iff_ne, beq_eq_false_iff_ne, bne_eq_false_iff_eq, ne_eq, Decidable.not_not] at hb
          first | rw [if_pos hb17] at h | rw [if_neg (Bool.eq_false_iff.1 hb17)] at h | rw [if_pos hb] at h | rw [if_neg hb] at h | (simp only [hb, Bool.not_false, Bool.not_true, Bool.false_eq_true, if_true, if_false, reduceIte] at h)
          repeat (first | (rw [Option.ite_none_right_eq_some] at h; obtain ⟨_, h⟩ := h) | (rw [Option.ite_none_left_eq_some] at h; obtain ⟨_, h⟩ := h) | (simp only [Option.bind_some] at h))
          refine L.Gn hb17 ?_
          refine L.Gn hb17 ?_
          refine L.Gn hb17 ?_
          refine L.Gn hb17 ?_
          refine L.Gn hb17 ?_
          refine L.Gn hb17 ?_
          refine L.Y (Y.pk (c := true) hb17) ?_
          refine AList.nil ?_
          rcases k with _ | k
          · exact absurd h (by simp [spec_TableOfOrder.j0])
          simp only [spec_TableOfOrder.j0] at h
          repeat (first | (rw [Option.ite_none_right_eq_some] at h; obtain ⟨_, h⟩ := h) | (rw [Option.ite_none_left_eq_some] at h; obtain ⟨_, h⟩ := h) | (simp only [Option.bind_some] at h))
          refine W.cond (fun hb => ?_) (fun hb => ?_)
          rotate_left
          · first | (cases hb; done) | contradiction | (simp_all; done) | (exfalso; (try simp only [decide_eq_true_eq, decide_eq_false_iff_not, Bool.not_eq_true', Bool.not_eq_false', Bool.not_eq_true, Bool.not_eq_false, beq_iff_eq, bne_iff_ne, beq_eq_false_iff_ne, bne_eq_false_iff_eq, ne_eq, Decidable.not_not] at hb); omega) | (exfalso; simp_all; omega)
          have hb18 := hb
          try (first | rw [if_pos hb18] at h | rw [if_neg (Bool.eq_false_iff.1 hb18)] at h | rw [if_pos hb] at h | rw [if_neg hb] at h | (simp only [hb, Bool.not_false, Bool.not_true, Bool.false_eq_true, if_true, if_false, reduceIte] at h))
          repeat (first | (rw [Option.ite_none_right_eq_some] at h; obtain ⟨_, h⟩ := h) | (rw [Option.ite_none_left_eq_some] at h; obtain ⟨_, h⟩ := h) | (simp only [Option.bind_some] at h))
          refine AWp.seq ?_
          refine AWp.region ?_
          refine L.Y (Y.bd Tryd.underlying27 Y27 P27) ?_
          refine L.S (S.stb Y27) ?_
          refine L.Y Y.asg ?_
          refine AList.nil ?_
          repeat (first | (rw [Option.ite_none_right_eq_some] at h; obtain ⟨_, h⟩ := h) | (rw [Option.ite_none_left_eq_some] at h; obtain ⟨_, h⟩ := h) | (simp only [Option.bind_some] at h))
          simp only [Option.some.injEq, Prod.mk.injEq] at h
          obtain ⟨rfl, rfl, rfl, rfl⟩ := h
          refine AWp.ret ?_
          exact ⟨.inr rfl, _, _, _, Res.c2 Tryd.underlying27 Y27, ⟨rfl, rfl⟩, PartV.at [(3, 1)] [2] base0 (H.c .nil)⟩
        · have hb17 := hb
          try simp only [decide_eq_true_eq, decide_eq_false_iff_not, Bool.not_eq_true', Bool.not_eq_false', Bool.not_eq_true, Bool.not_eq_false, beq_iff_eq, bne_iff_ne, beq_eq_false_iff_ne, bne_eq_false_iff_eq, ne_eq, Decidable.not_not] at hb
          first | rw [if_pos hb17] at h | rw [if_neg (Bool.eq_false_iff.1 hb17)] at h | rw [if_pos hb] at h | rw [if_neg hb] at h | (simp only [hb, Bool.not_false, Bool.not_true, Bool.false_eq_true, if_true, if_false, reduceIte] at h)
          repeat (first | (rw [Option.ite_none_right_eq_some] at h; obtain ⟨_, h⟩ := h) | (rw [Option.ite_none_left_eq_some] at h; obtain ⟨_, h⟩ := h) | (simp only [Option.bind_some] at h))
          refine L.Gy hb17 Y.mv ?_
          refine L.Gy hb17 (Y.fa (off := 0) Tryd.underlying30 Y3) ?_
          refine L.Gs hb17 (S.ld Tryd.underlying3) ?_
          refine L.Gy hb17 Y.bin ?_
          repeat (first | (rw [Option.ite_none_right_eq_some] at h; obtain ⟨_, h⟩ := h) | (rw [Option.ite_none_left_eq_some] at h; obtain ⟨_, h⟩ := h) | (simp only [Option.bind_some] at h))
          obtain ⟨t130, hc19, h⟩ := Option.bind_eq_some_iff.1 h
          repeat (first | (rw [Option.ite_none_right_eq_some] at h; obtain ⟨_, h⟩ := h) | (rw [Option.ite_none_left_eq_some] at h; obtain ⟨_, h⟩ := h) | (simp only [Option.bind_some] at h))
          refine L.GC hb17 (C.callE (l := true) [] Tryd.func66 (spec_l1Rising.ac _ _ _ _ _ hc19) .nil ?_)
          refine L.Gy hb17 Y.nt ?_
          refine L.Y (Y.pk (c := false) hb17) ?_
          refine AList.nil ?_
          rcases k with _ | k
          · exact absurd h (by simp [spec_TableOfOrder.j0])
          simp only [spec_TableOfOrder.j0] at h
          repeat (first | (rw [Option.ite_none_right_eq_some] at h; obtain ⟨_, h⟩ := h) | (rw [Option.ite_none_left_eq_some] at h; obtain ⟨_, h⟩ := h) | (simp only [Option.bind_some] at h))
          refine W.cond (fun hb => ?_) (fun hb => ?_)
          · have hb20 := hb
            try simp only [decide_eq_true_eq, decide_eq_false_iff_not, Bool.not_eq_true', Bool.not_eq_false', Bool.not_eq_true, Bool.not_eq_false, beq_iff_eq, bne_iff_ne, beq_eq_false_iff_ne, bne_eq_false_iff_eq, ne_eq, Decidable.not_not] at hb
            first | rw [if_pos hb20] at h | rw [if_neg (Bool.eq_false_iff.1 hb20)] at h | rw [if_pos hb] at h | rw [if_neg hb] at h | (simp only [hb, Bool.not_false, Bool.not_true, Bool.false_eq_true, if_true, if_false, reduceIte] at h)
            repeat (first | (rw [Option.ite_none_right_eq_some] at h; obtain ⟨_, h⟩ := h) | (rw [Option.ite_none_left_eq_some] at h; obtain ⟨_, h⟩ := h) | (simp only [Option.bind_some] at h))
            refine AWp.seq ?_
            refine AWp.region ?_
            refine L.Y (Y.bd Tryd.underlying27 Y27 P27) ?_
            refine L.S (S.stb Y27) ?_
            refine L.Y Y.asg ?_
            refine AList.nil ?_
            repeat (first | (rw [Option.ite_none_right_eq_some] at h; obtain ⟨_, h⟩ := h) | (rw [Option.ite_none_left_eq_some] at h; obtain ⟨_, h⟩ := h) | (simp only [Option.bind_some] at h))
            simp only [Option.some.injEq, Prod.mk.injEq] at h
            obtain ⟨rfl, rfl, rfl, rfl⟩ := h
            refine AWp.ret ?_
            exact ⟨.inr rfl, _, _, _, Res.c2 Tryd.underlying27 Y27, ⟨rfl, rfl⟩, PartV.at [(3, 1)] [2] base0 (H.c .nil)⟩
          · have hb20 := hb
            try simp only [decide_eq_true_eq, decide_eq_false_iff_not, Bool.not_eq_true', Bool.not_eq_false', Bool.not_eq_true, Bool.not_eq_false, beq_iff_eq, bne_iff_ne, beq_eq_false_iff_ne, bne_eq_false_iff_eq, ne_eq, Decidable.not_not] at hb
            first | rw [if_pos hb20] at h | rw [if_neg (Bool.eq_false_iff.1 hb20)] at h | rw [if_pos hb] at h | rw [if_neg hb] at h | (simp only [hb, Bool.not_false, Bool.not_true, Bool.false_eq_true, if_true, if_false, reduceIte] at h)
            repeat (first | (rw [Option.ite_none_right_eq_some] at h; obtain ⟨_, h⟩ := h) | (rw [Option.ite_none_left_eq_some] at h; obtain ⟨_, h⟩ := h) | (simp only [Option.bind_some] at h))
            refine AWp.skip ?_
            refine AWp.seq ?_
            refine AWp.region ?_
            refine L.Y Y.mv ?_
            refine L.Y (Y.ln Tryd.underlying22) ?_
            refine L.Y Y.mv ?_
            refine L.Y (Y.ln Tryd.underlying22) ?_
            refine L.Y (Y.bd Tryd.underlying27 Y27 P27) ?_
            refine L.M (M.al Y27) ?_
            refine L.S (S.stb Y27) ?_
            refine AList.nil ?_
            refine AWp.seq ?_
            refine AWp.seq ?_
            refine AWp.region ?_
            refine L.Y Y.mv ?_
            refine L.Y (Y.ln Tryd.underlying22) ?_
            refine L.Y Y.mv ?_
            refine AList.nil ?_
            refine AWp.block ?_
            repeat (first | (rw [Option.ite_none_right_eq_some] at h; obtain ⟨_, h⟩ := h) | (rw [Option.ite_none_left_eq_some] at h; obtain ⟨_, h⟩ := h) | (simp only [Option.bind_some] at h))
            refine AWp.loopI (fun kk e H => kk ≤ k ∧ ∃ (x2 : List Int) (x51 : List Int) (x52 : Int) (x53 : Int) (x125000 : Int) (x125001 : List Int) (x126000 : Int) (x126001 : Int) (x132000 : Int) (x132001 : Int) (x132002 : List Int), e = [(2, .row 1 x2.length false (ints .i64 x2)), (3, .ptr 0 0), (6, .ptr 1 0), (8, .ptr 2 0), (51, .row 1 x51.length false (ints .i64 x51)), (52, .lit (.int .i64 x52)), (53, .lit (.int .i64 x53))] ∧ H = [.bx 30 [.lit (.int .i64 x125000), .row 1 x125001.length false (ints .i64 x125001)], .bx 27 [.lit (.int .i64 x126000), .lit (.int .i64 x126001), .lit (.slice none 0 0)], .bx 27 [.lit (.int .i64 x132000), .lit (.int .i64 x132001), .own 3 x132002.length], .sl 3 1 x132002.length false (ints .i64 x132002)] ∧ spec_TableOfOrder.l0 kk x2 x51 x52 x53 x125000 x125001 x132000 x132001 x132002 = some (r1, r2, r3, r4)) (k := k)
              ⟨_, _, ⟨Nat.le_refl _, _, _, _, _, _, _, _, _, _, _, _, rfl, rfl, h⟩, IsPart.at [(3, 1)] [0, 1, 2, 3] base0 (H.c (H.c (H.c (H.c .nil)))) (E.c (E.c (E.c (E.c (E.c (E.c (E.c .nil)))))))⟩ ?_
            clear h
            rintro k21 e H ⟨hk22, x2, x51, x52, x53, x125000, x125001, x126000, x126001, x132000, x132001, x132002, rfl, rfl, h⟩
            cases k21 with
            | zero => exact absurd h (by simp [spec_TableOfOrder.l0])
            | succ k21 =>
            simp only [spec_TableOfOrder.l0] at h
            repeat (first | (rw [Option.ite_none_right_eq_some] at h; obtain ⟨_, h⟩ := h) | (rw [Option.ite_none_left_eq_some] at h; obtain ⟨_, h⟩ := h) | (simp only [Option.bind_some] at h))
            refine AWp.seq ?_
            refine AWp.region ?_
            refine L.Y Y.bin ?_
            refine AList.nil ?_
            refine AWp.seq ?_
            refine W.cond (fun hb => ?_) (fun hb => ?_)
            · have hb23 := hb
              try simp only [decide_eq_true_eq, decide_eq_false_iff_not, Bool.not_eq_true', Bool.not_eq_false', Bool.not_eq_true, Bool.not_eq_false, beq_iff_eq, bne_iff_ne, beq_eq_false_iff_ne, bne_eq_false_iff_eq, ne_eq, Decidable.not_not] at hb
              first | rw [if_pos hb23] at h | rw [if_neg (Bool.eq_false_iff.1 hb23)] at h | rw [if_pos hb] at h | rw [if_neg hb] at h | (simp only [hb, Bool.not_false, Bool.not_true, Bool.false_eq_true, if_true, if_false, reduceIte] at h)
              repeat (first | (rw [Option.ite_none_right_eq_some] at h; obtain ⟨_, h⟩ := h) | (rw [Option.ite_none_left_eq_some] at h; obtain ⟨_, h⟩ := h) | (simp only [Option.bind_some] at h))
              refine AWp.skip ?_
              refine AWp.seq ?_
              refine AWp.block ?_
              refine AWp.seq ?_
              refine AWp.region ?_
              refine L.Y (Y.ixr Tryd.underlying22 Y3) ?_
              refine L.S (S.ld Tryd.underlying3) ?_
              refine L.Y Y.asg ?_
              refine AList.nil ?_
              refine AWp.seq ?_
              refine AWp.region ?_
              refine L.Y Y.asg ?_
              refine AList.nil ?_
              refine AWp.seq ?_
              refine AWp.seq ?_
              refine AWp.region ?_
              refine L.Y Y.mv ?_
              refine L.Y (Y.ln Tryd.underlying22) ?_
              refine L.Y Y.mv ?_
              refine AList.nil ?_
              refine AWp.block ?_
              repeat (first | (rw [Option.ite_none_right_eq_some] at h; obtain ⟨_, h⟩ := h) | (rw [Option.ite_none_left_eq_some] at h; obtain ⟨_, h⟩ := h) | (simp only [Option.bind_some] at h))
              refine AWp.loopI (fun kk e H => kk ≤ k21 ∧ ∃ (x2 : List Int) (x10 : Int) (x11 : Int) (x51 : List Int) (x52 : Int) (x53 : Int) (x57 : List Int) (x58 : Int) (x59 : Int) (x125000 : Int) (x125001 : List Int) (x126000 : Int) (x126001 : Int) (x132000 : Int) (x132001 : Int) (x132002 : List Int), e = [(2, .row 1 x2.length false (ints .i64 x2)), (3, .ptr 0 0), (6, .ptr 1 0), (8, .ptr 2 0), (10, .lit (.int .i64 x10)), (11, .lit (.int .i64 x11)), (51, .row 1 x51.length false (ints .i64 x51)), (52, .lit (.int .i64 x52)), (53, .lit (.int .i64 x53)), (57, .row 1 x57.length false (ints .i64 x57)), (58, .lit (.int .i64 x58)), (59, .lit (.int .i64 x59))] ∧ H = [.bx 30 [.lit (.int .i64 x125000), .row 1 x125001.length false (ints .i64 x125001)], .bx 27 [.lit (.int .i64 x126000), .lit (.int .i64 x126001), .lit (.slice none 0 0)], .bx 27 [.lit (.int .i64 x132000), .lit (.int .i64 x132001), .own 3 x132002.length], .sl 3 1 x132002.length false (ints .i64 x132002)] ∧ spec_TableOfOrder.l1 kk x2 x10 x11 x51 x52 x53 x57 x58 x59 x125000 x125001 x132000 x132001 x132002 = some (r1, r2, r3, r4)) (k := k21)
                ⟨_, _, ⟨Nat.le_refl _, _, _, _, _, _, _, _, _, _, _, _, _, _, _, _, _, rfl, rfl, h⟩, IsPart.at [] [0, 1, 2, 3] base0 (H.c (H.c (H.c (H.c .nil)))) (E.c (E.c (E.c (E.c (E.c (E.c (E.c (E.c (E.c (E.c (E.c (E.c .nil))))))))))))⟩ ?_
              clear h
              rintro k24 e H ⟨hk25, x2, x10, x11, x51, x52, x53, x57, x58, x59, x125000, x125001, x126000, x126001, x132000, x132001, x132002, rfl, rfl, h⟩
              cases k24 with
              | zero => exact absurd h (by simp [spec_TableOfOrder.l1])
              | succ k24 =>
              simp only [spec_TableOfOrder.l1] at h
              repeat (first | (rw [Option.ite_none_right_eq_some] at h; obtain ⟨_, h⟩ := h) | (rw [Option.ite_none_left_eq_some] at h; obtain ⟨_, h⟩ := h) | (simp only [Option.bind_some] at h))
              refine AWp.seq ?_
              refine AWp.region ?_
              refine L.Y Y.bin ?_
              refine AList.nil ?_
              refine AWp.seq ?_
              refine W.cond (fun hb => ?_) (fun hb => ?_)
              · have hb26 := hb
                try simp only [decide_eq_true_eq, decide_eq_false_iff_not, Bool.not_eq_true', Bool.not_eq_false', Bool.not_eq_true, Bool.not_eq_false, beq_iff_eq, bne_iff_ne, beq_eq_false_iff_ne, bne_eq_false_iff_eq, ne_eq, Decidable.not_not] at hb
                first | rw [if_pos hb26] at h | rw [if_neg (Bool.eq_false_iff.1 hb26)] at h | rw [if_pos hb] at h | rw [if_neg hb] at h | (simp only [hb, Bool.not_false, Bool.not_true, Bool.false_eq_true, if_true, if_false, reduceIte] at h)
                repeat (first | (rw [Option.ite_none_right_eq_some] at h; obtain ⟨_, h⟩ := h) | (rw [Option.ite_none_left_eq_some] at h; obtain ⟨_, h⟩ := h) | (simp only [Option.bind_some] at h))
                refine AWp.skip ?_
                refine AWp.seq ?_
                refine AWp.block ?_
                refine AWp.seq ?_
                refine AWp.region ?_
                refine L.Y Y.mv ?_
                refine L.Y (Y.ixr Tryd.underlying22 Y3) ?_
                refine L.S (S.ld Tryd.underlying3) ?_
                refine L.Y Y.asg ?_
                refine L.Y Y.asg ?_
                refine AList.nil ?_
                refine AWp.seq ?_
                refine AWp.region ?_
                refine L.Y (Y.fa (off := 1) Tryd.underlying30 Y22) ?_
                refine L.S (S.ld Tryd.underlying22) ?_
                refine L.Y Y.mv ?_
                refine L.Y (Y.ixr Tryd.underlying22 Y3) ?_
                refine L.S (S.ld Tryd.underlying3) ?_
                refine L.Y Y.mv ?_
                repeat (first | (rw [Option.ite_none_right_eq_some] at h; obtain ⟨_, h⟩ := h) | (rw [Option.ite_none_left_eq_some] at h; obtain ⟨_, h⟩ := h) | (simp only [Option.bind_some] at h))
                obtain ⟨t135, hc27, h⟩ := Option.bind_eq_some_iff.1 h
                repeat (first | (rw [Option.ite_none_right_eq_some] at h; obtain ⟨_, h⟩ := h) | (rw [Option.ite_none_left_eq_some] at h; obtain ⟨_, h⟩ := h) | (simp only [Option.bind_some] at h))
                refine L.C (C.callE (l := true) [] Tryd.func67 (spec_orHas.ac _ _ _ hc27) .nil ?_)
                refine AList.nil ?_
                refine W.cond (fun hb => ?_) (fun hb => ?_)
                · have hb28 := hb
                  try simp only [decide_eq_true_eq, decide_eq_false_iff_not, Bool.not_eq_true', Bool.not_eq_false', Bool.not_eq_true, Bool.not_eq_false, beq_iff_eq, bne_iff_ne, beq_eq_false_iff_ne, bne_eq_false_iff_eq, ne_eq, Decidable.not_not] at hb
                  first | rw [if_pos hb28] at h | rw [if_neg (Bool.eq_false_iff.1 hb28)] at h | rw [if_pos hb] at h | rw [if_neg hb] at h | (simp only [hb, Bool.not_false, Bool.not_true, Bool.false_eq_true, if_true, if_false, reduceIte] at h)
                  repeat (first | (rw [Option.ite_none_right_eq_some] at h; obtain ⟨_, h⟩ := h) | (rw [Option.ite_none_left_eq_some] at h; obtain ⟨_, h⟩ := h) | (simp only [Option.bind_some] at h))
                  refine AWp.region ?_
                  refine L.Y Y.mv ?_
                  refine L.Y Y.mv ?_
                  refine L.Y Y.bin ?_
                  refine L.Y Y.bin ?_
                  refine L.Y Y.asg ?_
                  refine AList.nil ?_
                  refine AWp.region ?_
                  refine L.Y Y.bin ?_
                  refine L.Y Y.mv ?_
                  refine AList.nil ?_
                  repeat (first | (rw [Option.ite_none_right_eq_some] at h; obtain ⟨_, h⟩ := h) | (rw [Option.ite_none_left_eq_some] at h; obtain ⟨_, h⟩ := h) | (simp only [Option.bind_some] at h))
                  exact ⟨k24, by omega, _, _, ⟨by omega, _, _, _, _, _, _, _, _, _, _, _, _, _, _, _, _, rfl, rfl, h⟩, IsPart.at [] [0, 1, 2, 3] base0 (H.c (H.c (H.c (H.c .nil)))) (E.c (E.c (E.c (E.c (E.c (E.c (E.c (E.c (E.c (E.c (E.c (E.c .nil))))))))))))⟩
                · have hb28 := hb
                  try simp only [decide_eq_true_eq, decide_eq_false_iff_not, Bool.not_eq_true', Bool.not_eq_false', Bool.not_eq_true, Bool.not_eq_false, beq_iff_eq, bne_iff_ne, beq_eq_false_iff_ne, bne_eq_false_iff_eq, ne_eq, Decidable.not_not] at hb
                  first | rw [if_pos hb28] at h | rw [if_neg (Bool.eq_false_iff.1 hb28)] at h | rw [if_pos hb] at h | rw [if_neg hb] at h | (simp only [hb, Bool.not_false, Bool.not_true, Bool.false_eq_true, if_true, if_false, reduceIte] at h)
                  repeat (first | (rw [Option.ite_none_right_eq_some] at h; obtain ⟨_, h⟩ := h) | (rw [Option.ite_none_left_eq_some] at h; obtain ⟨_, h⟩ := h) | (simp only [Option.bind_some] at h))
                  refine AWp.skip ?_
                  refine AWp.region ?_
                  refine L.Y Y.bin ?_
                  refine L.Y Y.mv ?_
                  refine AList.nil ?_
                  repeat (first | (rw [Option.ite_none_right_eq_some] at h; obtain ⟨_, h⟩ := h) | (rw [Option.ite_none_left_eq_some] at h; obtain ⟨_, h⟩ := h) | (simp only [Option.bind_some] at h))
                  exact ⟨k24, by omega, _, _, ⟨by omega, _, _, _, _, _, _, _, _, _, _, _, _, _, _, _, _, rfl, rfl, h⟩, IsPart.at [] [0, 1, 2, 3] base0 (H.c (H.c (H.c (H.c .nil)))) (E.c (E.c (E.c (E.c (E.c (E.c (E.c (E.c (E.c (E.c (E.c (E.c .nil))))))))))))⟩
              · have hb26 := hb
                try simp only [decide_eq_true_eq, decide_eq_false_iff_not, Bool.not_eq_true', Bool.not_eq_false', Bool.not_eq_true, Bool.not_eq_false, beq_iff_eq, bne_iff_ne, beq_eq_false_iff_ne, bne_eq_false_iff_eq, ne_eq, Decidable.not_not] at hb
                first | rw [if_pos hb26] at h | rw [if_neg (Bool.eq_false_iff.1 hb26)] at h | rw [if_pos hb] at h | rw [if_neg hb] at h | (simp only [hb, Bool.not_false, Bool.not_true, Bool.false_eq_true, if_true, if_false, reduceIte] at h)
                repeat (first | (rw [Option.ite_none_right_eq_some] at h; obtain ⟨_, h⟩ := h) | (rw [Option.ite_none_left_eq_some] at h; obtain ⟨_, h⟩ := h) | (simp only [Option.bind_some] at h))
                refine AWp.exit ?_
                refine AWp.region ?_
                refine L.Y (Y.fa (off := 2) Tryd.underlying27 Y22) ?_
                refine L.S (S.ld Tryd.underlying22) ?_
                refine L.Y Y.mv ?_
                refine L.M (M.bs Tryd.underlying22 Y3) ?_
                refine L.S (S.ap (nn' := false) Tryd.underlying22 Y3) ?_
                refine L.Y (Y.fa (off := 2) Tryd.underlying27 Y22) ?_
                refine L.S (S.stb Y22) ?_
                refine AList.nil ?_
                refine AWp.region ?_
                refine L.Y Y.bin ?_
                refine L.Y Y.mv ?_
                refine AList.nil ?_
                repeat (first | (rw [Option.ite_none_right_eq_some] at h; obtain ⟨_, h⟩ := h) | (rw [Option.ite_none_left_eq_some] at h; obtain ⟨_, h⟩ := h) | (simp only [Option.bind_some] at h))
                exact ⟨k24, by omega, _, _, ⟨by omega, _, _, _, _, _, _, _, _, _, _, _, rfl, rfl, h⟩, IsPart.at [] [0, 1, 2, 3] base0 (H.c (H.c (H.c (H.c .nil)))) (E.c (E.c (E.c (E.c (E.c (E.c (E.c .nil)))))))⟩
            · have hb23 := hb
              try simp only [decide_eq_true_eq, decide_eq_false_iff_not, Bool.not_eq_true', Bool.not_eq_false', Bool.not_eq_true, Bool.not_eq_false, beq_iff_eq, bne_iff_ne, beq_eq_false_iff_ne, bne_eq_false_iff_eq, ne_eq, Decidable.not_not] at hb
              first | rw [if_pos hb23] at h | rw [if_neg (Bool.eq_false_iff.1 hb23)] at h | rw [if_pos hb] at h | rw [if_neg hb] at h | (simp only [hb, Bool.not_false, Bool.not_true, Bool.false_eq_true, if_true, if_false, reduceIte] at h)
              repeat (first | (rw [Option.ite_none_right_eq_some] at h; obtain ⟨_, h⟩ := h) | (rw [Option.ite_none_left_eq_some] at h; obtain ⟨_, h⟩ := h) | (simp only [Option.bind_some] at h))
              refine AWp.exit ?_
              refine AWp.seq ?_
              refine AWp.region ?_
              refine L.S (S.ldN Tryd.underlying27 Y27) ?_
              refine L.S (S.stb Y27) ?_
              refine L.Y Y.asg ?_
              refine AList.nil ?_
              repeat (first | (rw [Option.ite_none_right_eq_some] at h; obtain ⟨_, h⟩ := h) | (rw [Option.ite_none_left_eq_some] at h; obtain ⟨_, h⟩ := h) | (simp only [Option.bind_some] at h))
              simp only [Option.some.injEq, Prod.mk.injEq] at h
              obtain ⟨rfl, rfl, rfl, rfl⟩ := h
              refine AWp.ret ?_
              exact ⟨.inr rfl, _, _, _, Res.c2 Tryd.underlying27 Y27, ⟨rfl, rfl⟩, PartV.at [] [3] base0 (H.c .nil)⟩

/-! ### laws_toIntS: function 13 -/
def laws_toIntS.l0 : Nat → List Int → List Int → Int → Option (List Int)
  | 0, _, _, _ => none
  | k + 1, x0, x3, x4 => if x4 < (x0.length : Int) then (if 0 ≤ x4 then (if x4 < (x3.length : Int) then (laws_toIntS.l0 k x0 (x3.set (x4 : Int).toNat (rd x0 x4)) (wrap64 (x4 + 1))) else (none)) else (none)) else (some x3)
def laws_toIntS.f (k : Nat) (l0 : List Int) : Option (List Int) := if 0 ≤ (l0.length : Int) then (if ((l0.length : Int) : Int).toNat ≤ 35184372088832 then (laws_toIntS.l0 k l0 (List.replicate ((l0.length : Int) : Int).toNat 0) 0) else (none)) else (none)
theorem laws_toIntS.mono_l : ∀ k, (∀ y0 y1 y2, LeO (laws_toIntS.l0 k y0 y1 y2) (laws_toIntS.l0 (k + 1) y0 y1 y2))
  | 0 => fun _ _ _ r h => by simp [laws_toIntS.l0] at h
  | k + 1 => by
    have ih0 := laws_toIntS.mono_l k
    · intro y0 y1 y2
      unfold laws_toIntS.l0
      repeat' first
      | (with_reducible exact ih0 _ _ _)
      | (with_reducible exact LeO.refl _)
      | (with_reducible exact LeO.none _)
      | (with_reducible refine LeO.ite ?_ ?_)
      | (with_reducible refine LeO.bind ?_ (fun _ => ?_))
      | exact ih0 _ _ _
      | exact LeO.none _
      | refine LeO.ite ?_ ?_
      | refine LeO.bind ?_ (fun _ => ?_)
theorem laws_toIntS.mono : ∀ a0 k, LeO (laws_toIntS.f k a0) (laws_toIntS.f (k + 1) a0) := by
  intro a0 k
  have ih0 := laws_toIntS.mono_l k
  unfold laws_toIntS.f
  repeat' first
      | (with_reducible exact ih0 _ _ _)
      | (with_reducible exact LeO.refl _)
      | (with_reducible exact LeO.none _)
      | (with_reducible refine LeO.ite ?_ ?_)
      | (with_reducible refine LeO.bind ?_ (fun _ => ?_))
      | exact ih0 _ _ _
      | exact LeO.none _
      | refine LeO.ite ?_ ?_
      | refine LeO.bind ?_ (fun _ => ?_)
set_option maxRecDepth 100000 in
set_option maxHeartbeats 20000000 in
theorem laws_toIntS.ac (k : Nat) (l0 : List Int) (r : List Int) (h : laws_toIntS.f k l0 = some r) :
    ACalls Tryd.prog 13 [.row 1 l0.length false (ints .i64 l0)] [] (fun v H' => v = .own 0 r.length ∧ H' = [.sl 3 1 r.length false (ints .i64 r)]) := by
  refine ACalls.ofP [2] Tryd.func13 rfl (by exact Nat.le_of_ble_eq_true rfl) rfl (by decide) ?_
  simp only [Tryd.ntmps13, env0, laws_toIntS.f] at h ⊢
  repeat (first | (rw [Option.ite_none_right_eq_some] at h; obtain ⟨_, h⟩ := h) | (rw [Option.ite_none_left_eq_some] at h; obtain ⟨_, h⟩ := h) | (simp only [Option.bind_some] at h))
  refine AWp.seq ?_
  refine AWp.region ?_
  refine L.Y Y.asg ?_
  refine AList.nil ?_
  refine AWp.seq ?_
  refine AWp.region ?_
  refine L.Y Y.mv ?_
  refine L.Y (Y.ln Tryd.underlying22) ?_
  refine L.M (M.mk Tryd.underlying22 Y3) ?_
  refine L.Y Y.asg ?_
  refine AList.nil ?_
  refine AWp.seq ?_
  refine AWp.seq ?_
  refine AWp.region ?_
  refine L.Y Y.asg ?_
  refine AList.nil ?_
  refine AWp.block ?_
  repeat (first | (rw [Option.ite_none_right_eq_some] at h; obtain ⟨_, h⟩ := h) | (rw [Option.ite_none_left_eq_some] at h; obtain ⟨_, h⟩ := h) | (simp only [Option.bind_some] at h))
  refine AWp.loopI (fun kk e H => kk ≤ k ∧ ∃ (x0 : List Int) (x3 : List Int) (x4 : Int), e = [(0, .row 1 x0.length false (ints .i64 x0)), (2, .lit (.slice none 0 0)), (3, .own 0 x3.length), (4, .lit (.int .i64 x4))] ∧ H = [.sl 3 1 x3.length true (ints .i64 x3)] ∧ laws_toIntS.l0 kk x0 x3 x4 = some r) (k := k)
    ⟨_, _, ⟨Nat.le_refl _, _, _, _, rfl, rfl, h⟩, IsPart.at [] [0] base0 (H.c .nil) (E.c (E.c (E.c (E.c .nil))))⟩ ?_
  clear h
  rintro k1 e H ⟨hk2, x0, x3, x4, rfl, rfl, h⟩
  cases k1 with
  | zero => exact absurd h (by simp [laws_toIntS.l0])
  | succ k1 =>
  simp only [laws_toIntS.l0] at h
  repeat (first | (rw [Option.ite_none_right_eq_some] at h; obtain ⟨_, h⟩ := h) | (rw [Option.ite_none_left_eq_some] at h; obtain ⟨_, h⟩ := h) | (simp only [Option.bind_some] at h))
  refine AWp.seq ?_
  refine AWp.seq ?_
  refine AWp.region ?_
  refine L.Y Y.mv ?_
  refine L.Y Y.mv ?_
  refine L.Y (Y.ln Tryd.underlying22) ?_
  refine L.Y Y.bin ?_
  refine AList.nil ?_
  refine W.cond (fun hb => ?_) (fun hb => ?_)
  · have hb3 := hb
    try simp only [decide_eq_true_eq, decide_eq_false_iff_not, Bool.not_eq_true', Bool.not_eq_false', Bool.not_eq_true, Bool.not_eq_false, beq_iff_eq, bne_iff_ne, beq_eq_false_iff_ne, bne_eq_false_iff_eq, ne_eq, Decidable.not_not] at hb
    first | rw [if_pos hb3] at h | rw [if_neg (Bool.eq_false_iff.1 hb3)] at h | rw [if_pos hb] at h | rw [if_neg hb] at h | (simp only [hb, Bool.not_false, Bool.not_true, Bool.false_eq_true, if_true, if_false, reduceIte] at h)
    repeat (first | (rw [Option.ite_none_right_eq_some] at h; obtain ⟨_, h⟩ := h) | (rw [Option.ite_none_left_eq_some] at h; obtain ⟨_, h⟩ := h) | (simp only [Option.bind_some] at h))
    refine AWp.skip ?_
    refine AWp.seq ?_
    refine AWp.block ?_
    refine AWp.region ?_
    refine L.Y Y.mv ?_
    refine L.Y Y.mv ?_
    refine L.Y Y.mv ?_
    refine L.Y Y.mv ?_
    refine L.Y (Y.ixr Tryd.underlying22 Y3) ?_
    refine L.S (S.ld Tryd.underlying3) ?_
    refine L.Y (Y.ixo Tryd.underlying22 Y3) ?_
    refine L.S (S.sts Y3) ?_
    refine AList.nil ?_
    refine AWp.region ?_
    refine L.Y Y.mv ?_
    refine L.Y Y.bin ?_
    refine L.Y Y.asg ?_
    refine AList.nil ?_
    repeat (first | (rw [Option.ite_none_right_eq_some] at h; obtain ⟨_, h⟩ := h) | (rw [Option.ite_none_left_eq_some] at h; obtain ⟨_, h⟩ := h) | (simp only [Option.bind_some] at h))
    exact ⟨k1, by omega, _, _, ⟨by omega, _, _, _, rfl, rfl, h⟩, IsPart.at [] [0] base0 (H.c .nil) (E.c (E.c (E.c (E.c .nil))))⟩
  · have hb3 := hb
    try simp only [decide_eq_true_eq, decide_eq_false_iff_not, Bool.not_eq_true', Bool.not_eq_false', Bool.not_eq_true, Bool.not_eq_false, beq_iff_eq, bne_iff_ne, beq_eq_false_iff_ne, bne_eq_false_iff_eq, ne_eq, Decidable.not_not] at hb
    first | rw [if_pos hb3] at h | rw [if_neg (Bool.eq_false_iff.1 hb3)] at h | rw [if_pos hb] at h | rw [if_neg hb] at h | (simp only [hb, Bool.not_false, Bool.not_true, Bool.false_eq_true, if_true, if_false, reduceIte] at h)
    repeat (first | (rw [Option.ite_none_right_eq_some] at h; obtain ⟨_, h⟩ := h) | (rw [Option.ite_none_left_eq_some] at h; obtain ⟨_, h⟩ := h) | (simp only [Option.bind_some] at h))
    refine AWp.exit ?_
    refine AWp.seq ?_
    refine AWp.region ?_
    refine L.Y Y.mv ?_
    refine L.Y Y.asg ?_
    refine AList.nil ?_
    repeat (first | (rw [Option.ite_none_right_eq_some] at h; obtain ⟨_, h⟩ := h) | (rw [Option.ite_none_left_eq_some] at h; obtain ⟨_, h⟩ := h) | (simp only [Option.bind_some] at h))
    obtain rfl := Option.some.inj h
    refine AWp.ret ?_
    exact ⟨.inr rfl, [(2, _)], _, ⟨rfl, rfl⟩, IsPart.at [] [0] base0 (H.c .nil) (E.c .nil)⟩

end Go.Proofs.YtpippjgphndjmaaDoor.PFnExactTableOfOrder
