-- Written by a program of this session's (wip/myprint2): the functions by the kit's print, the walks by awgen.py. Lean checks it.
import Derived.Test.YtakabmokpknknaaPFnExactMeetTablesx0
import Derived.Test.YtakabmokpknknaaPFnExactMeetTablesx2
namespace Go.Proofs.Ytakabmokpknknaa.PFnExactMeetTables
open Go.RowKit Go.Proofs.YtakabmokpknknaaW.PrintWords Go.Proofs.YtakabmokpknknaaW.PrintLast Go.Proofs.YtakabmokpknknaaW.PrintMore Go.Proofs.YtakabmokpknknaaM Go.Proofs.YtakabmokpknknaaA
attribute [local go_sem] max2_int min2_int max_two min_two max_three min_three max_four min_four   -- for this text's walks alone
set_option linter.unusedVariables false
set_option linter.unusedSimpArgs false

/-! ### impl_MeetTables: function 9 -/
def impl_MeetTables.f (k : Nat) (a0_0 : Int) (a0_1 : Int) (l0_2 : List Int) (a1_0 : Int) (a1_1 : Int) (l1_2 : List Int) : Option (Int × Int × List Int × Bool) := (impl_IsTable.f k a0_0 a0_1 l0_2).bind fun t160 => (if t160 = true then ((impl_IsTable.f k a1_0 a1_1 l1_2).bind fun t161 => (if t161 = true then (if a0_0 = a1_0 then (if a0_1 = a1_1 then ((impl_table.f k a0_0 a0_1 (fun z0_ z1_ => impl_MeetTables_1.f z0_ z1_ a0_0 a0_1 l0_2 a1_0 a1_1 l1_2)).bind fun bt162 => (some (bt162.1, bt162.2.1, bt162.2.2, true))) else (some (0, 0, ([] : List Int), false))) else (some (0, 0, ([] : List Int), false))) else (some (0, 0, ([] : List Int), false)))) else (some (0, 0, ([] : List Int), false)))
theorem impl_MeetTables.mono : ∀ a0 a1 a2 a3 a4 a5 k, LeO (impl_MeetTables.f k a0 a1 a2 a3 a4 a5) (impl_MeetTables.f (k + 1) a0 a1 a2 a3 a4 a5) := by
  intro a0 a1 a2 a3 a4 a5 k
  unfold impl_MeetTables.f
  repeat' first
      | (with_reducible exact impl_IsTable.mono _ _ _ _)
      | (with_reducible exact impl_table.mono _ _ _ _)
      | (with_reducible exact LeO.refl _)
      | (with_reducible exact LeO.none _)
      | (with_reducible refine LeO.ite ?_ ?_)
      | (with_reducible refine LeO.bind ?_ (fun _ => ?_))
      | exact impl_IsTable.mono _ _ _ _
      | exact impl_table.mono _ _ _ _
      | exact LeO.none _
      | refine LeO.ite ?_ ?_
      | refine LeO.bind ?_ (fun _ => ?_)
set_option maxRecDepth 100000 in
set_option maxHeartbeats 20000000 in
theorem impl_MeetTables.ac (k : Nat) (a0_0 : Int) (a0_1 : Int) (l0_2 : List Int) (a1_0 : Int) (a1_1 : Int) (l1_2 : List Int) (r1 : Int) (r2 : Int) (r3 : List Int) (r4 : Bool) (h : impl_MeetTables.f k a0_0 a0_1 l0_2 a1_0 a1_1 l1_2 = some (r1, r2, r3, r4)) :
    ACalls Try.prog 9 [.agg [.lit (.int .i64 a0_0), .lit (.int .i64 a0_1), .row 1 l0_2.length false (ints .i64 l0_2)], .agg [.lit (.int .i64 a1_0), .lit (.int .i64 a1_1), .row 1 l1_2.length false (ints .i64 l1_2)]] [] (fun v H' => v = .tup [.agg [.lit (.int .i64 r1), .lit (.int .i64 r2), .own 0 r3.length], .lit (.bool r4)] ∧ H' = [.sl 3 1 r3.length false (ints .i64 r3)]) := by
  refine ACalls.ofV Try.func9 rfl (by exact Nat.le_of_ble_eq_true rfl) ?_
  simp only [Try.ntmps9, env0, impl_MeetTables.f] at h ⊢
  repeat (first | (rw [Option.ite_none_right_eq_some] at h; obtain ⟨_, h⟩ := h) | (rw [Option.ite_none_left_eq_some] at h; obtain ⟨_, h⟩ := h) | (simp only [Option.bind_some] at h))
  refine AWp.seq ?_
  refine AWp.region ?_
  refine L.M M.bx ?_
  refine L.M M.bx ?_
  refine L.M (M.al Y26) ?_
  refine L.Y Y.asg ?_
  refine AList.nil ?_
  refine AWp.seq ?_
  refine AWp.seq ?_
  refine AWp.region ?_
  refine L.S (S.ldN Try.underlying26 Y26) ?_
  repeat (first | (rw [Option.ite_none_right_eq_some] at h; obtain ⟨_, h⟩ := h) | (rw [Option.ite_none_left_eq_some] at h; obtain ⟨_, h⟩ := h) | (simp only [Option.bind_some] at h))
  obtain ⟨t160, hc1, h⟩ := Option.bind_eq_some_iff.1 h
  repeat (first | (rw [Option.ite_none_right_eq_some] at h; obtain ⟨_, h⟩ := h) | (rw [Option.ite_none_left_eq_some] at h; obtain ⟨_, h⟩ := h) | (simp only [Option.bind_some] at h))
  refine L.C (C.callE (l := true) [] Try.func24 (impl_IsTable.ac _ _ _ _ _ hc1) .nil ?_)
  refine L.Y Y.nt ?_
  refine L.Y Y.mv ?_
  refine L.Gc (fun hb => ?_) (fun hb => ?_)
  · have hb2 := hb
    try simp only [decide_eq_true_eq, decide_eq_false_iff_not, Bool.not_eq_true', Bool.not_eq_false', Bool.not_eq_true, Bool.not_eq_false, beq_iff_eq, bne_iff_ne, beq_eq_false_iff_ne, bne_eq_false_iff_eq, ne_eq, Decidable.not_not] at hb
    first | rw [if_pos hb2] at h | rw [if_neg (Bool.eq_false_iff.1 hb2)] at h | rw [if_pos hb] at h | rw [if_neg hb] at h | (simp only [hb, Bool.not_false, Bool.not_true, Bool.false_eq_true, if_true, if_false, reduceIte] at h)
    repeat (first | (rw [Option.ite_none_right_eq_some] at h; obtain ⟨_, h⟩ := h) | (rw [Option.ite_none_left_eq_some] at h; obtain ⟨_, h⟩ := h) | (simp only [Option.bind_some] at h))
    refine L.Gn hb2 ?_
    refine L.Gn hb2 ?_
    refine L.Gn hb2 ?_
    refine L.Y (Y.pk (c := true) hb2) ?_
    refine L.Y Y.mv ?_
    refine L.Gc (fun hb => ?_) (fun hb => ?_)
    rotate_left
    · first | (cases hb; done) | contradiction | (simp_all; done) | (exfalso; (try simp only [decide_eq_true_eq, decide_eq_false_iff_not, Bool.not_eq_true', Bool.not_eq_false', Bool.not_eq_true, Bool.not_eq_false, beq_iff_eq, bne_iff_ne, beq_eq_false_iff_ne, bne_eq_false_iff_eq, ne_eq, Decidable.not_not] at hb); omega) | (exfalso; simp_all; omega)
    have hb3 := hb
    refine L.Gn hb3 ?_
    refine L.Gn hb3 ?_
    refine L.Gn hb3 ?_
    refine L.Gn hb3 ?_
    refine L.Gn hb3 ?_
    refine L.Y (Y.pk (c := true) hb3) ?_
    refine L.Y Y.mv ?_
    refine L.Gc (fun hb => ?_) (fun hb => ?_)
    rotate_left
    · first | (cases hb; done) | contradiction | (simp_all; done) | (exfalso; (try simp only [decide_eq_true_eq, decide_eq_false_iff_not, Bool.not_eq_true', Bool.not_eq_false', Bool.not_eq_true, Bool.not_eq_false, beq_iff_eq, bne_iff_ne, beq_eq_false_iff_ne, bne_eq_false_iff_eq, ne_eq, Decidable.not_not] at hb); omega) | (exfalso; simp_all; omega)
    have hb4 := hb
    refine L.Gn hb4 ?_
    refine L.Gn hb4 ?_
    refine L.Gn hb4 ?_
    refine L.Gn hb4 ?_
    refine L.Gn hb4 ?_
    refine L.Y (Y.pk (c := true) hb4) ?_
    refine AList.nil ?_
    refine W.cond (fun hb => ?_) (fun hb => ?_)
    rotate_left
    · first | (cases hb; done) | contradiction | (simp_all; done) | (exfalso; (try simp only [decide_eq_true_eq, decide_eq_false_iff_not, Bool.not_eq_true', Bool.not_eq_false', Bool.not_eq_true, Bool.not_eq_false, beq_iff_eq, bne_iff_ne, beq_eq_false_iff_ne, bne_eq_false_iff_eq, ne_eq, Decidable.not_not] at hb); omega) | (exfalso; simp_all; omega)
    have hb5 := hb
    refine AWp.seq ?_
    refine W.kp [0, 1, 2, 3, 4, 5, 27] ?_
    refine AWp.region ?_
    refine L.Y (Y.bd Try.underlying26 Y26 P26) ?_
    refine L.S (S.stb Y26) ?_
    refine L.Y Y.asg ?_
    refine AList.nil ?_
    repeat (first | (rw [Option.ite_none_right_eq_some] at h; obtain ⟨_, h⟩ := h) | (rw [Option.ite_none_left_eq_some] at h; obtain ⟨_, h⟩ := h) | (simp only [Option.bind_some] at h))
    simp only [Option.some.injEq, Prod.mk.injEq] at h
    obtain ⟨rfl, rfl, rfl, rfl⟩ := h
    refine AWp.ret ?_
    exact ⟨.inr rfl, _, _, _, Res.c2 Try.underlying26 Y26, ⟨rfl, rfl⟩, PartV.at [(3, 1)] [3] base0 (H.c .nil)⟩
  · have hb2 := hb
    try simp only [decide_eq_true_eq, decide_eq_false_iff_not, Bool.not_eq_true', Bool.not_eq_false', Bool.not_eq_true, Bool.not_eq_false, beq_iff_eq, bne_iff_ne, beq_eq_false_iff_ne, bne_eq_false_iff_eq, ne_eq, Decidable.not_not] at hb
    first | rw [if_pos hb2] at h | rw [if_neg (Bool.eq_false_iff.1 hb2)] at h | rw [if_pos hb] at h | rw [if_neg hb] at h | (simp only [hb, Bool.not_false, Bool.not_true, Bool.false_eq_true, if_true, if_false, reduceIte] at h)
    repeat (first | (rw [Option.ite_none_right_eq_some] at h; obtain ⟨_, h⟩ := h) | (rw [Option.ite_none_left_eq_some] at h; obtain ⟨_, h⟩ := h) | (simp only [Option.bind_some] at h))
    refine L.Gs hb2 (S.ldN Try.underlying26 Y26) ?_
    repeat (first | (rw [Option.ite_none_right_eq_some] at h; obtain ⟨_, h⟩ := h) | (rw [Option.ite_none_left_eq_some] at h; obtain ⟨_, h⟩ := h) | (simp only [Option.bind_some] at h))
    obtain ⟨t161, hc6, h⟩ := Option.bind_eq_some_iff.1 h
    repeat (first | (rw [Option.ite_none_right_eq_some] at h; obtain ⟨_, h⟩ := h) | (rw [Option.ite_none_left_eq_some] at h; obtain ⟨_, h⟩ := h) | (simp only [Option.bind_some] at h))
    refine L.GC hb2 (C.callE (l := true) [] Try.func24 (impl_IsTable.ac _ _ _ _ _ hc6) .nil ?_)
    refine L.Gy hb2 Y.nt ?_
    refine L.Y (Y.pk (c := false) hb2) ?_
    refine L.Y Y.mv ?_
    refine L.Gc (fun hb => ?_) (fun hb => ?_)
    · have hb7 := hb
      try simp only [decide_eq_true_eq, decide_eq_false_iff_not, Bool.not_eq_true', Bool.not_eq_false', Bool.not_eq_true, Bool.not_eq_false, beq_iff_eq, bne_iff_ne, beq_eq_false_iff_ne, bne_eq_false_iff_eq, ne_eq, Decidable.not_not] at hb
      first | rw [if_pos hb7] at h | rw [if_neg (Bool.eq_false_iff.1 hb7)] at h | rw [if_pos hb] at h | rw [if_neg hb] at h | (simp only [hb, Bool.not_false, Bool.not_true, Bool.false_eq_true, if_true, if_false, reduceIte] at h)
      repeat (first | (rw [Option.ite_none_right_eq_some] at h; obtain ⟨_, h⟩ := h) | (rw [Option.ite_none_left_eq_some] at h; obtain ⟨_, h⟩ := h) | (simp only [Option.bind_some] at h))
      refine L.Gn hb7 ?_
      refine L.Gn hb7 ?_
      refine L.Gn hb7 ?_
      refine L.Gn hb7 ?_
      refine L.Gn hb7 ?_
      refine L.Y (Y.pk (c := true) hb7) ?_
      refine L.Y Y.mv ?_
      refine L.Gc (fun hb => ?_) (fun hb => ?_)
      rotate_left
      · first | (cases hb; done) | contradiction | (simp_all; done) | (exfalso; (try simp only [decide_eq_true_eq, decide_eq_false_iff_not, Bool.not_eq_true', Bool.not_eq_false', Bool.not_eq_true, Bool.not_eq_false, beq_iff_eq, bne_iff_ne, beq_eq_false_iff_ne, bne_eq_false_iff_eq, ne_eq, Decidable.not_not] at hb); omega) | (exfalso; simp_all; omega)
      have hb8 := hb
      refine L.Gn hb8 ?_
      refine L.Gn hb8 ?_
      refine L.Gn hb8 ?_
      refine L.Gn hb8 ?_
      refine L.Gn hb8 ?_
      refine L.Y (Y.pk (c := true) hb8) ?_
      refine AList.nil ?_
      refine W.cond (fun hb => ?_) (fun hb => ?_)
      rotate_left
      · first | (cases hb; done) | contradiction | (simp_all; done) | (exfalso; (try simp only [decide_eq_true_eq, decide_eq_false_iff_not, Bool.not_eq_true', Bool.not_eq_false', Bool.not_eq_true, Bool.not_eq_false, beq_iff_eq, bne_iff_ne, beq_eq_false_iff_ne, bne_eq_false_iff_eq, ne_eq, Decidable.not_not] at hb); omega) | (exfalso; simp_all; omega)
      have hb9 := hb
      refine AWp.seq ?_
      refine W.kp [0, 1, 2, 3, 4, 5, 27] ?_
      refine AWp.region ?_
      refine L.Y (Y.bd Try.underlying26 Y26 P26) ?_
      refine L.S (S.stb Y26) ?_
      refine L.Y Y.asg ?_
      refine AList.nil ?_
      repeat (first | (rw [Option.ite_none_right_eq_some] at h; obtain ⟨_, h⟩ := h) | (rw [Option.ite_none_left_eq_some] at h; obtain ⟨_, h⟩ := h) | (simp only [Option.bind_some] at h))
      simp only [Option.some.injEq, Prod.mk.injEq] at h
      obtain ⟨rfl, rfl, rfl, rfl⟩ := h
      refine AWp.ret ?_
      exact ⟨.inr rfl, _, _, _, Res.c2 Try.underlying26 Y26, ⟨rfl, rfl⟩, PartV.at [(3, 1)] [3] base0 (H.c .nil)⟩
    · have hb7 := hb
      try simp only [decide_eq_true_eq, decide_eq_false_iff_not, Bool.not_eq_true', Bool.not_eq_false', Bool.not_eq_true, Bool.not_eq_false, beq_iff_eq, bne_iff_ne, beq_eq_false_iff_ne, bne_eq_false_iff_eq, ne_eq, Decidable.not_not] at hb
      first | rw [if_pos hb7] at h | rw [if_neg (Bool.eq_false_iff.1 hb7)] at h | rw [if_pos hb] at h | rw [if_neg hb] at h | (simp only [hb, Bool.not_false, Bool.not_true, Bool.false_eq_true, if_true, if_false, reduceIte] at h)
      repeat (first | (rw [Option.ite_none_right_eq_some] at h; obtain ⟨_, h⟩ := h) | (rw [Option.ite_none_left_eq_some] at h; obtain ⟨_, h⟩ := h) | (simp only [Option.bind_some] at h))
      refine L.Gy hb7 (Y.fa (off := 0) Try.underlying26 Y3) ?_
      refine L.Gs hb7 (S.ld Try.underlying3) ?_
      refine L.Gy hb7 (Y.fa (off := 0) Try.underlying26 Y3) ?_
      refine L.Gs hb7 (S.ld Try.underlying3) ?_
      refine L.Gy hb7 Y.bin ?_
      refine L.Y (Y.pk (c := false) hb7) ?_
      refine L.Y Y.mv ?_
      refine L.Gc (fun hb => ?_) (fun hb => ?_)
      · have hb10 := hb
        try simp only [decide_eq_true_eq, decide_eq_false_iff_not, Bool.not_eq_true', Bool.not_eq_false', Bool.not_eq_true, Bool.not_eq_false, beq_iff_eq, bne_iff_ne, beq_eq_false_iff_ne, bne_eq_false_iff_eq, ne_eq, Decidable.not_not] at hb
        first | rw [if_pos hb10] at h | rw [if_neg (Bool.eq_false_iff.1 hb10)] at h | rw [if_pos hb] at h | rw [if_neg hb] at h | (simp only [hb, Bool.not_false, Bool.not_true, Bool.false_eq_true, if_true, if_false, reduceIte] at h)
        repeat (first | (rw [Option.ite_none_right_eq_some] at h; obtain ⟨_, h⟩ := h) | (rw [Option.ite_none_left_eq_some] at h; obtain ⟨_, h⟩ := h) | (simp only [Option.bind_some] at h))
        refine L.Gn hb10 ?_
        refine L.Gn hb10 ?_
        refine L.Gn hb10 ?_
        refine L.Gn hb10 ?_
        refine L.Gn hb10 ?_
        refine L.Y (Y.pk (c := true) hb10) ?_
        refine AList.nil ?_
        refine W.cond (fun hb => ?_) (fun hb => ?_)
        rotate_left
        · first | (cases hb; done) | contradiction | (simp_all; done) | (exfalso; (try simp only [decide_eq_true_eq, decide_eq_false_iff_not, Bool.not_eq_true', Bool.not_eq_false', Bool.not_eq_true, Bool.not_eq_false, beq_iff_eq, bne_iff_ne, beq_eq_false_iff_ne, bne_eq_false_iff_eq, ne_eq, Decidable.not_not] at hb); omega) | (exfalso; simp_all; omega)
        have hb11 := hb
        refine AWp.seq ?_
        refine W.kp [0, 1, 2, 3, 4, 5, 27] ?_
        refine AWp.region ?_
        refine L.Y (Y.bd Try.underlying26 Y26 P26) ?_
        refine L.S (S.stb Y26) ?_
        refine L.Y Y.asg ?_
        refine AList.nil ?_
        repeat (first | (rw [Option.ite_none_right_eq_some] at h; obtain ⟨_, h⟩ := h) | (rw [Option.ite_none_left_eq_some] at h; obtain ⟨_, h⟩ := h) | (simp only [Option.bind_some] at h))
        simp only [Option.some.injEq, Prod.mk.injEq] at h
        obtain ⟨rfl, rfl, rfl, rfl⟩ := h
        refine AWp.ret ?_
        exact ⟨.inr rfl, _, _, _, Res.c2 Try.underlying26 Y26, ⟨rfl, rfl⟩, PartV.at [(3, 1)] [3] base0 (H.c .nil)⟩
      · have hb10 := hb
        try simp only [decide_eq_true_eq, decide_eq_false_iff_not, Bool.not_eq_true', Bool.not_eq_false', Bool.not_eq_true, Bool.not_eq_false, beq_iff_eq, bne_iff_ne, beq_eq_false_iff_ne, bne_eq_false_iff_eq, ne_eq, Decidable.not_not] at hb
        first | rw [if_pos hb10] at h | rw [if_neg (Bool.eq_false_iff.1 hb10)] at h | rw [if_pos hb] at h | rw [if_neg hb] at h | (simp only [hb, Bool.not_false, Bool.not_true, Bool.false_eq_true, if_true, if_false, reduceIte] at h)
        repeat (first | (rw [Option.ite_none_right_eq_some] at h; obtain ⟨_, h⟩ := h) | (rw [Option.ite_none_left_eq_some] at h; obtain ⟨_, h⟩ := h) | (simp only [Option.bind_some] at h))
        refine L.Gy hb10 (Y.fa (off := 1) Try.underlying26 Y3) ?_
        refine L.Gs hb10 (S.ld Try.underlying3) ?_
        refine L.Gy hb10 (Y.fa (off := 1) Try.underlying26 Y3) ?_
        refine L.Gs hb10 (S.ld Try.underlying3) ?_
        refine L.Gy hb10 Y.bin ?_
        refine L.Y (Y.pk (c := false) hb10) ?_
        refine AList.nil ?_
        refine W.cond (fun hb => ?_) (fun hb => ?_)
        · have hb12 := hb
          try simp only [decide_eq_true_eq, decide_eq_false_iff_not, Bool.not_eq_true', Bool.not_eq_false', Bool.not_eq_true, Bool.not_eq_false, beq_iff_eq, bne_iff_ne, beq_eq_false_iff_ne, bne_eq_false_iff_eq, ne_eq, Decidable.not_not] at hb
          first | rw [if_pos hb12] at h | rw [if_neg (Bool.eq_false_iff.1 hb12)] at h | rw [if_pos hb] at h | rw [if_neg hb] at h | (simp only [hb, Bool.not_false, Bool.not_true, Bool.false_eq_true, if_true, if_false, reduceIte] at h)
          repeat (first | (rw [Option.ite_none_right_eq_some] at h; obtain ⟨_, h⟩ := h) | (rw [Option.ite_none_left_eq_some] at h; obtain ⟨_, h⟩ := h) | (simp only [Option.bind_some] at h))
          refine AWp.seq ?_
          refine W.kp [0, 1, 2, 3, 4, 5, 27] ?_
          refine AWp.region ?_
          refine L.Y (Y.bd Try.underlying26 Y26 P26) ?_
          refine L.S (S.stb Y26) ?_
          refine L.Y Y.asg ?_
          refine AList.nil ?_
          repeat (first | (rw [Option.ite_none_right_eq_some] at h; obtain ⟨_, h⟩ := h) | (rw [Option.ite_none_left_eq_some] at h; obtain ⟨_, h⟩ := h) | (simp only [Option.bind_some] at h))
          simp only [Option.some.injEq, Prod.mk.injEq] at h
          obtain ⟨rfl, rfl, rfl, rfl⟩ := h
          refine AWp.ret ?_
          exact ⟨.inr rfl, _, _, _, Res.c2 Try.underlying26 Y26, ⟨rfl, rfl⟩, PartV.at [(3, 1)] [3] base0 (H.c .nil)⟩
        · have hb12 := hb
          try simp only [decide_eq_true_eq, decide_eq_false_iff_not, Bool.not_eq_true', Bool.not_eq_false', Bool.not_eq_true, Bool.not_eq_false, beq_iff_eq, bne_iff_ne, beq_eq_false_iff_ne, bne_eq_false_iff_eq, ne_eq, Decidable.not_not] at hb
          first | rw [if_pos hb12] at h | rw [if_neg (Bool.eq_false_iff.1 hb12)] at h | rw [if_pos hb] at h | rw [if_neg hb] at h | (simp only [hb, Bool.not_false, Bool.not_true, Bool.false_eq_true, if_true, if_false, reduceIte] at h)
          repeat (first | (rw [Option.ite_none_right_eq_some] at h; obtain ⟨_, h⟩ := h) | (rw [Option.ite_none_left_eq_some] at h; obtain ⟨_, h⟩ := h) | (simp only [Option.bind_some] at h))
          refine AWp.skip ?_
          refine AWp.seq ?_
          refine W.kp [0, 1, 2, 3, 4, 5, 27] ?_
          refine AWp.region ?_
          refine L.Y (Y.fa (off := 0) Try.underlying26 Y3) ?_
          refine L.S (S.ld Try.underlying3) ?_
          refine L.Y (Y.fa (off := 1) Try.underlying26 Y3) ?_
          refine L.S (S.ld Try.underlying3) ?_
          refine L.Y Y.fn ?_
          repeat (first | (rw [Option.ite_none_right_eq_some] at h; obtain ⟨_, h⟩ := h) | (rw [Option.ite_none_left_eq_some] at h; obtain ⟨_, h⟩ := h) | (simp only [Option.bind_some] at h))
          obtain ⟨⟨t162, t163, t164⟩, hc13, h⟩ := Option.bind_eq_some_iff.1 h
          dsimp only at h
          repeat (first | (rw [Option.ite_none_right_eq_some] at h; obtain ⟨_, h⟩ := h) | (rw [Option.ite_none_left_eq_some] at h; obtain ⟨_, h⟩ := h) | (simp only [Option.bind_some] at h))
          refine L.C (C.callE (l := true) [] Try.func36 (impl_table.ac _ _ _ _ _ _ _ hc13 37 _ (FnOk.at_ Try.func37) (by simp [noids, noid, noids_ints]) (fun x_ y_ r_ h_ => impl_MeetTables_1.ac x_ y_ _ _ _ _ _ _ r_ h_)) .nil ?_)
          refine L.S (S.stb Y26) ?_
          refine L.Y Y.asg ?_
          refine AList.nil ?_
          repeat (first | (rw [Option.ite_none_right_eq_some] at h; obtain ⟨_, h⟩ := h) | (rw [Option.ite_none_left_eq_some] at h; obtain ⟨_, h⟩ := h) | (simp only [Option.bind_some] at h))
          simp only [Option.some.injEq, Prod.mk.injEq] at h
          obtain ⟨rfl, rfl, rfl, rfl⟩ := h
          refine AWp.ret ?_
          exact ⟨.inr rfl, _, _, _, Res.c2 Try.underlying26 Y26, ⟨rfl, rfl⟩, PartV.at [] [3] base0 (H.c .nil)⟩

/-! ### laws_eqIntS: function 15 -/
def laws_eqIntS.l0 : Nat → List Int → List Int → Int → Option (Bool)
  | 0, _, _, _ => none
  | k + 1, x0, x1, x5 => if x5 < (x0.length : Int) then (if 0 ≤ x5 then (if x5 < (x1.length : Int) then (if (rd x0 x5) = (rd x1 x5) then (laws_eqIntS.l0 k x0 x1 (wrap64 (x5 + 1))) else (some false)) else (none)) else (none)) else (some true)
def laws_eqIntS.f (k : Nat) (l0 : List Int) (l1 : List Int) : Option (Bool) := if (l0.length : Int) = (l1.length : Int) then (laws_eqIntS.l0 k l0 l1 0) else (some false)
theorem laws_eqIntS.mono_l : ∀ k, (∀ y0 y1 y2, LeO (laws_eqIntS.l0 k y0 y1 y2) (laws_eqIntS.l0 (k + 1) y0 y1 y2))
  | 0 => fun _ _ _ r h => by simp [laws_eqIntS.l0] at h
  | k + 1 => by
    have ih0 := laws_eqIntS.mono_l k
    · intro y0 y1 y2
      unfold laws_eqIntS.l0
      repeat' first
      | (with_reducible exact ih0 _ _ _)
      | (with_reducible exact LeO.refl _)
      | (with_reducible exact LeO.none _)
      | (with_reducible refine LeO.ite ?_ ?_)
      | (with_reducible refine LeO.bind ?_ (fun _ => ?_))
      | exact ih0 _ _ _
      | exact LeO.none _
      | refine LeO.ite ?_ ?_
      | refine LeO.bind ?_ (fun _ => ?_)
theorem laws_eqIntS.mono : ∀ a0 a1 k, LeO (laws_eqIntS.f k a0 a1) (laws_eqIntS.f (k + 1) a0 a1) := by
  intro a0 a1 k
  have ih0 := laws_eqIntS.mono_l k
  unfold laws_eqIntS.f
  repeat' first
      | (with_reducible exact ih0 _ _ _)
      | (with_reducible exact LeO.refl _)
      | (with_reducible exact LeO.none _)
      | (with_reducible refine LeO.ite ?_ ?_)
      | (with_reducible refine LeO.bind ?_ (fun _ => ?_))
      | exact ih0 _ _ _
      | exact LeO.none _
      | refine LeO.ite ?_ ?_
      | refine LeO.bind ?_ (fun _ => ?_)
set_option maxRecDepth 100000 in
set_option maxHeartbeats 20000000 in
theorem laws_eqIntS.ac (k : Nat) (l0 : List Int) (l1 : List Int) (r : Bool) (h : laws_eqIntS.f k l0 l1 = some r) :
    ACalls Try.prog 15 [.row 1 l0.length false (ints .i64 l0), .row 1 l1.length false (ints .i64 l1)] [] (fun v H' => v = .lit (.bool r) ∧ H' = []) := by
  refine ACalls.ofP [4] Try.func15 rfl (by exact Nat.le_of_ble_eq_true rfl) rfl (by decide) ?_
  simp only [Try.ntmps15, env0, laws_eqIntS.f] at h ⊢
  repeat (first | (rw [Option.ite_none_right_eq_some] at h; obtain ⟨_, h⟩ := h) | (rw [Option.ite_none_left_eq_some] at h; obtain ⟨_, h⟩ := h) | (simp only [Option.bind_some] at h))
  refine AWp.seq ?_
  refine AWp.region ?_
  refine L.Y Y.asg ?_
  refine AList.nil ?_
  refine AWp.seq ?_
  refine AWp.seq ?_
  refine AWp.region ?_
  refine L.Y Y.mv ?_
  refine L.Y (Y.ln Try.underlying22) ?_
  refine L.Y Y.mv ?_
  refine L.Y (Y.ln Try.underlying22) ?_
  refine L.Y Y.bin ?_
  refine AList.nil ?_
  refine W.cond (fun hb => ?_) (fun hb => ?_)
  · have hb1 := hb
    try simp only [decide_eq_true_eq, decide_eq_false_iff_not, Bool.not_eq_true', Bool.not_eq_false', Bool.not_eq_true, Bool.not_eq_false, beq_iff_eq, bne_iff_ne, beq_eq_false_iff_ne, bne_eq_false_iff_eq, ne_eq, Decidable.not_not] at hb
    first | rw [if_pos hb1] at h | rw [if_neg (Bool.eq_false_iff.1 hb1)] at h | rw [if_pos hb] at h | rw [if_neg hb] at h | (simp only [hb, Bool.not_false, Bool.not_true, Bool.false_eq_true, if_true, if_false, reduceIte] at h)
    repeat (first | (rw [Option.ite_none_right_eq_some] at h; obtain ⟨_, h⟩ := h) | (rw [Option.ite_none_left_eq_some] at h; obtain ⟨_, h⟩ := h) | (simp only [Option.bind_some] at h))
    refine AWp.seq ?_
    refine W.kp [0, 1, 4, 10] ?_
    refine AWp.region ?_
    refine L.Y Y.asg ?_
    refine AList.nil ?_
    repeat (first | (rw [Option.ite_none_right_eq_some] at h; obtain ⟨_, h⟩ := h) | (rw [Option.ite_none_left_eq_some] at h; obtain ⟨_, h⟩ := h) | (simp only [Option.bind_some] at h))
    obtain rfl := Option.some.inj h
    refine AWp.ret ?_
    exact ⟨.inr rfl, [(4, _)], _, ⟨rfl, rfl⟩, IsPart.at [] [] base0 .nil (E.c .nil)⟩
  · have hb1 := hb
    try simp only [decide_eq_true_eq, decide_eq_false_iff_not, Bool.not_eq_true', Bool.not_eq_false', Bool.not_eq_true, Bool.not_eq_false, beq_iff_eq, bne_iff_ne, beq_eq_false_iff_ne, bne_eq_false_iff_eq, ne_eq, Decidable.not_not] at hb
    first | rw [if_pos hb1] at h | rw [if_neg (Bool.eq_false_iff.1 hb1)] at h | rw [if_pos hb] at h | rw [if_neg hb] at h | (simp only [hb, Bool.not_false, Bool.not_true, Bool.false_eq_true, if_true, if_false, reduceIte] at h)
    repeat (first | (rw [Option.ite_none_right_eq_some] at h; obtain ⟨_, h⟩ := h) | (rw [Option.ite_none_left_eq_some] at h; obtain ⟨_, h⟩ := h) | (simp only [Option.bind_some] at h))
    refine AWp.skip ?_
    refine AWp.seq ?_
    refine AWp.seq ?_
    refine W.kp [0, 1, 4, 10] ?_
    refine AWp.region ?_
    refine L.Y Y.asg ?_
    refine AList.nil ?_
    refine AWp.block ?_
    repeat (first | (rw [Option.ite_none_right_eq_some] at h; obtain ⟨_, h⟩ := h) | (rw [Option.ite_none_left_eq_some] at h; obtain ⟨_, h⟩ := h) | (simp only [Option.bind_some] at h))
    refine AWp.loopI (fun kk e H => kk ≤ k ∧ ∃ (x5 : Int), e = [(0, .row 1 l0.length false (ints .i64 l0)), (1, .row 1 l1.length false (ints .i64 l1)), (5, .lit (.int .i64 x5))] ∧ H = [] ∧ laws_eqIntS.l0 kk l0 l1 x5 = some r) (k := k)
      ⟨_, _, ⟨Nat.le_refl _, _, rfl, rfl, h⟩, IsPart.at [] [] base0 .nil (E.c (E.c (E.c .nil)))⟩ ?_
    clear h
    rintro k2 e H ⟨hk3, x5, rfl, rfl, h⟩
    cases k2 with
    | zero => exact absurd h (by simp [laws_eqIntS.l0])
    | succ k2 =>
    simp only [laws_eqIntS.l0] at h
    repeat (first | (rw [Option.ite_none_right_eq_some] at h; obtain ⟨_, h⟩ := h) | (rw [Option.ite_none_left_eq_some] at h; obtain ⟨_, h⟩ := h) | (simp only [Option.bind_some] at h))
    refine AWp.seq ?_
    refine AWp.seq ?_
    refine AWp.region ?_
    refine L.Y Y.mv ?_
    refine L.Y Y.mv ?_
    refine L.Y (Y.ln Try.underlying22) ?_
    refine L.Y Y.bin ?_
    refine AList.nil ?_
    refine W.cond (fun hb => ?_) (fun hb => ?_)
    · have hb4 := hb
      try simp only [decide_eq_true_eq, decide_eq_false_iff_not, Bool.not_eq_true', Bool.not_eq_false', Bool.not_eq_true, Bool.not_eq_false, beq_iff_eq, bne_iff_ne, beq_eq_false_iff_ne, bne_eq_false_iff_eq, ne_eq, Decidable.not_not] at hb
      first | rw [if_pos hb4] at h | rw [if_neg (Bool.eq_false_iff.1 hb4)] at h | rw [if_pos hb] at h | rw [if_neg hb] at h | (simp only [hb, Bool.not_false, Bool.not_true, Bool.false_eq_true, if_true, if_false, reduceIte] at h)
      repeat (first | (rw [Option.ite_none_right_eq_some] at h; obtain ⟨_, h⟩ := h) | (rw [Option.ite_none_left_eq_some] at h; obtain ⟨_, h⟩ := h) | (simp only [Option.bind_some] at h))
      refine AWp.skip ?_
      refine AWp.seq ?_
      refine AWp.block ?_
      refine AWp.seq ?_
      refine Dt.reg [] [] (.y 0 (.y 1 (.y 2 (.t 3 (.y 4 (.y 5 (.y 6 (.t 7 (.y 8 .done))))))))) HM ?_
      refine Dt.Y rfl wantN Y.mv ?_
      refine Dt.Y rfl wantN Y.mv ?_
      refine Dt.Y rfl wantN (Y.ixr Try.underlying22 Y3) ?_
      refine Dt.T rfl wantN (D.ld Try.underlying3) ?_
      refine Dt.Y rfl wantN Y.mv ?_
      refine Dt.Y rfl wantN Y.mv ?_
      refine Dt.Y rfl wantN (Y.ixr Try.underlying22 Y3) ?_
      refine Dt.T rfl wantN (D.ld Try.underlying3) ?_
      refine Dt.Y rfl wantN Y.bin ?_
      refine Dt.nil ?_
      refine W.cond (fun hb => ?_) (fun hb => ?_)
      · have hb5 := hb
        try simp only [decide_eq_true_eq, decide_eq_false_iff_not, Bool.not_eq_true', Bool.not_eq_false', Bool.not_eq_true, Bool.not_eq_false, beq_iff_eq, bne_iff_ne, beq_eq_false_iff_ne, bne_eq_false_iff_eq, ne_eq, Decidable.not_not] at hb
        first | rw [if_pos hb5] at h | rw [if_neg (Bool.eq_false_iff.1 hb5)] at h | rw [if_pos hb] at h | rw [if_neg hb] at h | (simp only [hb, Bool.not_false, Bool.not_true, Bool.false_eq_true, if_true, if_false, reduceIte] at h)
        repeat (first | (rw [Option.ite_none_right_eq_some] at h; obtain ⟨_, h⟩ := h) | (rw [Option.ite_none_left_eq_some] at h; obtain ⟨_, h⟩ := h) | (simp only [Option.bind_some] at h))
        refine AWp.seq ?_
        refine W.kp [0, 1, 5, 14, 25] ?_
        refine AWp.region ?_
        refine L.Y Y.asg ?_
        refine AList.nil ?_
        repeat (first | (rw [Option.ite_none_right_eq_some] at h; obtain ⟨_, h⟩ := h) | (rw [Option.ite_none_left_eq_some] at h; obtain ⟨_, h⟩ := h) | (simp only [Option.bind_some] at h))
        obtain rfl := Option.some.inj h
        refine AWp.ret ?_
        exact ⟨.inr rfl, [(4, _)], _, ⟨rfl, rfl⟩, IsPart.at [] [] base0 .nil (E.c .nil)⟩
      · have hb5 := hb
        try simp only [decide_eq_true_eq, decide_eq_false_iff_not, Bool.not_eq_true', Bool.not_eq_false', Bool.not_eq_true, Bool.not_eq_false, beq_iff_eq, bne_iff_ne, beq_eq_false_iff_ne, bne_eq_false_iff_eq, ne_eq, Decidable.not_not] at hb
        first | rw [if_pos hb5] at h | rw [if_neg (Bool.eq_false_iff.1 hb5)] at h | rw [if_pos hb] at h | rw [if_neg hb] at h | (simp only [hb, Bool.not_false, Bool.not_true, Bool.false_eq_true, if_true, if_false, reduceIte] at h)
        repeat (first | (rw [Option.ite_none_right_eq_some] at h; obtain ⟨_, h⟩ := h) | (rw [Option.ite_none_left_eq_some] at h; obtain ⟨_, h⟩ := h) | (simp only [Option.bind_some] at h))
        refine AWp.skip ?_
        refine W.kp [0, 1, 5, 14, 25] ?_
        refine AWp.region ?_
        refine L.Y Y.mv ?_
        refine L.Y Y.bin ?_
        refine L.Y Y.asg ?_
        refine AList.nil ?_
        repeat (first | (rw [Option.ite_none_right_eq_some] at h; obtain ⟨_, h⟩ := h) | (rw [Option.ite_none_left_eq_some] at h; obtain ⟨_, h⟩ := h) | (simp only [Option.bind_some] at h))
        exact ⟨k2, by omega, _, _, ⟨by omega, _, rfl, rfl, h⟩, IsPart.at [] [] base0 .nil (E.c (E.c (E.c .nil)))⟩
    · have hb4 := hb
      try simp only [decide_eq_true_eq, decide_eq_false_iff_not, Bool.not_eq_true', Bool.not_eq_false', Bool.not_eq_true, Bool.not_eq_false, beq_iff_eq, bne_iff_ne, beq_eq_false_iff_ne, bne_eq_false_iff_eq, ne_eq, Decidable.not_not] at hb
      first | rw [if_pos hb4] at h | rw [if_neg (Bool.eq_false_iff.1 hb4)] at h | rw [if_pos hb] at h | rw [if_neg hb] at h | (simp only [hb, Bool.not_false, Bool.not_true, Bool.false_eq_true, if_true, if_false, reduceIte] at h)
      repeat (first | (rw [Option.ite_none_right_eq_some] at h; obtain ⟨_, h⟩ := h) | (rw [Option.ite_none_left_eq_some] at h; obtain ⟨_, h⟩ := h) | (simp only [Option.bind_some] at h))
      refine AWp.exit ?_
      refine AWp.seq ?_
      refine AWp.region ?_
      refine L.Y Y.asg ?_
      refine AList.nil ?_
      repeat (first | (rw [Option.ite_none_right_eq_some] at h; obtain ⟨_, h⟩ := h) | (rw [Option.ite_none_left_eq_some] at h; obtain ⟨_, h⟩ := h) | (simp only [Option.bind_some] at h))
      obtain rfl := Option.some.inj h
      refine AWp.ret ?_
      exact ⟨.inr rfl, [(4, _)], _, ⟨rfl, rfl⟩, IsPart.at [] [] base0 .nil (E.c .nil)⟩

/-! ### laws_eqTable: function 10 -/
def laws_eqTable.f (k : Nat) (a0_0 : Int) (a0_1 : Int) (l0_2 : List Int) (a1_0 : Int) (a1_1 : Int) (l1_2 : List Int) : Option (Bool) := if a0_0 = a1_0 then (if a0_1 = a1_1 then ((laws_eqIntS.f k l0_2 l1_2).bind fun t171 => (if t171 = true then (some true) else (some false))) else (some false)) else (some false)
theorem laws_eqTable.mono : ∀ a0 a1 a2 a3 a4 a5 k, LeO (laws_eqTable.f k a0 a1 a2 a3 a4 a5) (laws_eqTable.f (k + 1) a0 a1 a2 a3 a4 a5) := by
  intro a0 a1 a2 a3 a4 a5 k
  unfold laws_eqTable.f
  repeat' first
      | (with_reducible exact laws_eqIntS.mono _ _ _)
      | (with_reducible exact LeO.refl _)
      | (with_reducible exact LeO.none _)
      | (with_reducible refine LeO.ite ?_ ?_)
      | (with_reducible refine LeO.bind ?_ (fun _ => ?_))
      | exact laws_eqIntS.mono _ _ _
      | exact LeO.none _
      | refine LeO.ite ?_ ?_
      | refine LeO.bind ?_ (fun _ => ?_)
set_option maxRecDepth 100000 in
set_option maxHeartbeats 20000000 in
theorem laws_eqTable.ac (k : Nat) (a0_0 : Int) (a0_1 : Int) (l0_2 : List Int) (a1_0 : Int) (a1_1 : Int) (l1_2 : List Int) (r : Bool) (h : laws_eqTable.f k a0_0 a0_1 l0_2 a1_0 a1_1 l1_2 = some r) :
    ACalls Try.prog 10 [.agg [.lit (.int .i64 a0_0), .lit (.int .i64 a0_1), .row 1 l0_2.length false (ints .i64 l0_2)], .agg [.lit (.int .i64 a1_0), .lit (.int .i64 a1_1), .row 1 l1_2.length false (ints .i64 l1_2)]] [] (fun v H' => v = .lit (.bool r) ∧ H' = []) := by
  refine ACalls.ofP [4] Try.func10 rfl (by exact Nat.le_of_ble_eq_true rfl) rfl (by decide) ?_
  simp only [Try.ntmps10, env0, laws_eqTable.f] at h ⊢
  repeat (first | (rw [Option.ite_none_right_eq_some] at h; obtain ⟨_, h⟩ := h) | (rw [Option.ite_none_left_eq_some] at h; obtain ⟨_, h⟩ := h) | (simp only [Option.bind_some] at h))
  refine AWp.seq ?_
  refine AWp.region ?_
  refine L.M M.bx ?_
  refine L.M M.bx ?_
  refine L.Y Y.asg ?_
  refine AList.nil ?_
  refine AWp.seq ?_
  refine AWp.seq ?_
  refine AWp.region ?_
  refine L.Y (Y.fa (off := 0) Try.underlying26 Y3) ?_
  refine L.S (S.ld Try.underlying3) ?_
  refine L.Y (Y.fa (off := 0) Try.underlying26 Y3) ?_
  refine L.S (S.ld Try.underlying3) ?_
  refine L.Y Y.bin ?_
  refine AList.nil ?_
  refine W.cond (fun hb => ?_) (fun hb => ?_)
  · have hb1 := hb
    try simp only [decide_eq_true_eq, decide_eq_false_iff_not, Bool.not_eq_true', Bool.not_eq_false', Bool.not_eq_true, Bool.not_eq_false, beq_iff_eq, bne_iff_ne, beq_eq_false_iff_ne, bne_eq_false_iff_eq, ne_eq, Decidable.not_not] at hb
    first | rw [if_pos hb1] at h | rw [if_neg (Bool.eq_false_iff.1 hb1)] at h | rw [if_pos hb] at h | rw [if_neg hb] at h | (simp only [hb, Bool.not_false, Bool.not_true, Bool.false_eq_true, if_true, if_false, reduceIte] at h)
    repeat (first | (rw [Option.ite_none_right_eq_some] at h; obtain ⟨_, h⟩ := h) | (rw [Option.ite_none_left_eq_some] at h; obtain ⟨_, h⟩ := h) | (simp only [Option.bind_some] at h))
    refine AWp.seq ?_
    refine W.kp [0, 1, 2, 3, 4, 9] ?_
    refine AWp.region ?_
    refine L.Y Y.asg ?_
    refine AList.nil ?_
    repeat (first | (rw [Option.ite_none_right_eq_some] at h; obtain ⟨_, h⟩ := h) | (rw [Option.ite_none_left_eq_some] at h; obtain ⟨_, h⟩ := h) | (simp only [Option.bind_some] at h))
    obtain rfl := Option.some.inj h
    refine AWp.ret ?_
    exact ⟨.inr rfl, [(4, _)], _, ⟨rfl, rfl⟩, IsPart.at [] [] base0 .nil (E.c .nil)⟩
  · have hb1 := hb
    try simp only [decide_eq_true_eq, decide_eq_false_iff_not, Bool.not_eq_true', Bool.not_eq_false', Bool.not_eq_true, Bool.not_eq_false, beq_iff_eq, bne_iff_ne, beq_eq_false_iff_ne, bne_eq_false_iff_eq, ne_eq, Decidable.not_not] at hb
    first | rw [if_pos hb1] at h | rw [if_neg (Bool.eq_false_iff.1 hb1)] at h | rw [if_pos hb] at h | rw [if_neg hb] at h | (simp only [hb, Bool.not_false, Bool.not_true, Bool.false_eq_true, if_true, if_false, reduceIte] at h)
    repeat (first | (rw [Option.ite_none_right_eq_some] at h; obtain ⟨_, h⟩ := h) | (rw [Option.ite_none_left_eq_some] at h; obtain ⟨_, h⟩ := h) | (simp only [Option.bind_some] at h))
    refine AWp.skip ?_
    refine AWp.seq ?_
    refine AWp.seq ?_
    refine W.kp [0, 1, 2, 3, 4, 9] ?_
    refine AWp.region ?_
    refine L.Y (Y.fa (off := 1) Try.underlying26 Y3) ?_
    refine L.S (S.ld Try.underlying3) ?_
    refine L.Y (Y.fa (off := 1) Try.underlying26 Y3) ?_
    refine L.S (S.ld Try.underlying3) ?_
    refine L.Y Y.bin ?_
    refine AList.nil ?_
    refine W.cond (fun hb => ?_) (fun hb => ?_)
    · have hb2 := hb
      try simp only [decide_eq_true_eq, decide_eq_false_iff_not, Bool.not_eq_true', Bool.not_eq_false', Bool.not_eq_true, Bool.not_eq_false, beq_iff_eq, bne_iff_ne, beq_eq_false_iff_ne, bne_eq_false_iff_eq, ne_eq, Decidable.not_not] at hb
      first | rw [if_pos hb2] at h | rw [if_neg (Bool.eq_false_iff.1 hb2)] at h | rw [if_pos hb] at h | rw [if_neg hb] at h | (simp only [hb, Bool.not_false, Bool.not_true, Bool.false_eq_true, if_true, if_false, reduceIte] at h)
      repeat (first | (rw [Option.ite_none_right_eq_some] at h; obtain ⟨_, h⟩ := h) | (rw [Option.ite_none_left_eq_some] at h; obtain ⟨_, h⟩ := h) | (simp only [Option.bind_some] at h))
      refine AWp.seq ?_
      refine W.kp [0, 1, 2, 3, 4, 9, 14] ?_
      refine AWp.region ?_
      refine L.Y Y.asg ?_
      refine AList.nil ?_
      repeat (first | (rw [Option.ite_none_right_eq_some] at h; obtain ⟨_, h⟩ := h) | (rw [Option.ite_none_left_eq_some] at h; obtain ⟨_, h⟩ := h) | (simp only [Option.bind_some] at h))
      obtain rfl := Option.some.inj h
      refine AWp.ret ?_
      exact ⟨.inr rfl, [(4, _)], _, ⟨rfl, rfl⟩, IsPart.at [] [] base0 .nil (E.c .nil)⟩
    · have hb2 := hb
      try simp only [decide_eq_true_eq, decide_eq_false_iff_not, Bool.not_eq_true', Bool.not_eq_false', Bool.not_eq_true, Bool.not_eq_false, beq_iff_eq, bne_iff_ne, beq_eq_false_iff_ne, bne_eq_false_iff_eq, ne_eq, Decidable.not_not] at hb
      first | rw [if_pos hb2] at h | rw [if_neg (Bool.eq_false_iff.1 hb2)] at h | rw [if_pos hb] at h | rw [if_neg hb] at h | (simp only [hb, Bool.not_false, Bool.not_true, Bool.false_eq_true, if_true, if_false, reduceIte] at h)
      repeat (first | (rw [Option.ite_none_right_eq_some] at h; obtain ⟨_, h⟩ := h) | (rw [Option.ite_none_left_eq_some] at h; obtain ⟨_, h⟩ := h) | (simp only [Option.bind_some] at h))
      refine AWp.skip ?_
      refine AWp.seq ?_
      refine AWp.seq ?_
      refine W.kp [0, 1, 2, 3, 4, 9, 14] ?_
      refine AWp.region ?_
      refine L.Y (Y.fa (off := 2) Try.underlying26 Y22) ?_
      refine L.S (S.ld Try.underlying22) ?_
      refine L.Y (Y.fa (off := 2) Try.underlying26 Y22) ?_
      refine L.S (S.ld Try.underlying22) ?_
      repeat (first | (rw [Option.ite_none_right_eq_some] at h; obtain ⟨_, h⟩ := h) | (rw [Option.ite_none_left_eq_some] at h; obtain ⟨_, h⟩ := h) | (simp only [Option.bind_some] at h))
      obtain ⟨t171, hc3, h⟩ := Option.bind_eq_some_iff.1 h
      repeat (first | (rw [Option.ite_none_right_eq_some] at h; obtain ⟨_, h⟩ := h) | (rw [Option.ite_none_left_eq_some] at h; obtain ⟨_, h⟩ := h) | (simp only [Option.bind_some] at h))
      refine L.C (C.callE (l := true) [] Try.func15 (laws_eqIntS.ac _ _ _ _ hc3) .nil ?_)
      refine L.Y Y.nt ?_
      refine AList.nil ?_
      refine W.cond (fun hb => ?_) (fun hb => ?_)
      · have hb4 := hb
        try simp only [decide_eq_true_eq, decide_eq_false_iff_not, Bool.not_eq_true', Bool.not_eq_false', Bool.not_eq_true, Bool.not_eq_false, beq_iff_eq, bne_iff_ne, beq_eq_false_iff_ne, bne_eq_false_iff_eq, ne_eq, Decidable.not_not] at hb
        first | rw [if_pos hb4] at h | rw [if_neg (Bool.eq_false_iff.1 hb4)] at h | rw [if_pos hb] at h | rw [if_neg hb] at h | (simp only [hb, Bool.not_false, Bool.not_true, Bool.false_eq_true, if_true, if_false, reduceIte] at h)
        repeat (first | (rw [Option.ite_none_right_eq_some] at h; obtain ⟨_, h⟩ := h) | (rw [Option.ite_none_left_eq_some] at h; obtain ⟨_, h⟩ := h) | (simp only [Option.bind_some] at h))
        refine AWp.seq ?_
        refine W.kp [0, 1, 2, 3, 4, 9, 14, 20] ?_
        refine AWp.region ?_
        refine L.Y Y.asg ?_
        refine AList.nil ?_
        repeat (first | (rw [Option.ite_none_right_eq_some] at h; obtain ⟨_, h⟩ := h) | (rw [Option.ite_none_left_eq_some] at h; obtain ⟨_, h⟩ := h) | (simp only [Option.bind_some] at h))
        obtain rfl := Option.some.inj h
        refine AWp.ret ?_
        exact ⟨.inr rfl, [(4, _)], _, ⟨rfl, rfl⟩, IsPart.at [] [] base0 .nil (E.c .nil)⟩
      · have hb4 := hb
        try simp only [decide_eq_true_eq, decide_eq_false_iff_not, Bool.not_eq_true', Bool.not_eq_false', Bool.not_eq_true, Bool.not_eq_false, beq_iff_eq, bne_iff_ne, beq_eq_false_iff_ne, bne_eq_false_iff_eq, ne_eq, Decidable.not_not] at hb
        first | rw [if_pos hb4] at h | rw [if_neg (Bool.eq_false_iff.1 hb4)] at h | rw [if_pos hb] at h | rw [if_neg hb] at h | (simp only [hb, Bool.not_false, Bool.not_true, Bool.false_eq_true, if_true, if_false, reduceIte] at h)
        repeat (first | (rw [Option.ite_none_right_eq_some] at h; obtain ⟨_, h⟩ := h) | (rw [Option.ite_none_left_eq_some] at h; obtain ⟨_, h⟩ := h) | (simp only [Option.bind_some] at h))
        refine AWp.skip ?_
        refine AWp.seq ?_
        refine W.kp [0, 1, 2, 3, 4, 9, 14, 20] ?_
        refine AWp.region ?_
        refine L.Y Y.asg ?_
        refine AList.nil ?_
        repeat (first | (rw [Option.ite_none_right_eq_some] at h; obtain ⟨_, h⟩ := h) | (rw [Option.ite_none_left_eq_some] at h; obtain ⟨_, h⟩ := h) | (simp only [Option.bind_some] at h))
        obtain rfl := Option.some.inj h
        refine AWp.ret ?_
        exact ⟨.inr rfl, [(4, _)], _, ⟨rfl, rfl⟩, IsPart.at [] [] base0 .nil (E.c .nil)⟩

/-! ### laws_markIntS: function 16 -/
def laws_markIntS.l0 : Nat → List Int → Int → Int → Option (Int × List Int)
  | 0, _, _, _ => none
  | k + 1, x0, x1, x5 => if x5 < (x0.length : Int) then (if 0 ≤ x5 then (laws_markIntS.l0 k (x0.set (x5 : Int).toNat x1) (wrap64 (x1 + 1)) (wrap64 (x5 + 1))) else (none)) else (some (x1, x0))
def laws_markIntS.f (k : Nat) (l0 : List Int) (a1 : Int) : Option (Int × List Int) := laws_markIntS.l0 k l0 a1 0
theorem laws_markIntS.mono_l : ∀ k, (∀ y0 y1 y2, LeO (laws_markIntS.l0 k y0 y1 y2) (laws_markIntS.l0 (k + 1) y0 y1 y2))
  | 0 => fun _ _ _ r h => by simp [laws_markIntS.l0] at h
  | k + 1 => by
    have ih0 := laws_markIntS.mono_l k
    · intro y0 y1 y2
      unfold laws_markIntS.l0
      repeat' first
      | (with_reducible exact ih0 _ _ _)
      | (with_reducible exact LeO.refl _)
      | (with_reducible exact LeO.none _)
      | (with_reducible refine LeO.ite ?_ ?_)
      | (with_reducible refine LeO.bind ?_ (fun _ => ?_))
      | exact ih0 _ _ _
      | exact LeO.none _
      | refine LeO.ite ?_ ?_
      | refine LeO.bind ?_ (fun _ => ?_)
theorem laws_markIntS.mono : ∀ a0 a1 k, LeO (laws_markIntS.f k a0 a1) (laws_markIntS.f (k + 1) a0 a1) := by
  intro a0 a1 k
  have ih0 := laws_markIntS.mono_l k
  unfold laws_markIntS.f
  repeat' first
      | (with_reducible exact ih0 _ _ _)
      | (with_reducible exact LeO.refl _)
      | (with_reducible exact LeO.none _)
      | (with_reducible refine LeO.ite ?_ ?_)
      | (with_reducible refine LeO.bind ?_ (fun _ => ?_))
      | exact ih0 _ _ _
      | exact LeO.none _
      | refine LeO.ite ?_ ?_
      | refine LeO.bind ?_ (fun _ => ?_)
theorem laws_markIntS.len_l : ∀ (k : Nat) (x0 : List Int) (x1 : Int) (x5 : Int) (r1 : Int) (r2 : List Int), laws_markIntS.l0 k x0 x1 x5 = some (r1, r2) → r2.length = x0.length := by
  intro k
  induction k with
  | zero => intro x0 x1 x5 r1 r2 h; simp [laws_markIntS.l0] at h
  | succ k ih =>
    intro x0 x1 x5 r1 r2 h
    simp only [laws_markIntS.l0] at h
    repeat' split at h
    all_goals first
      | (cases h; done)
      | (have := ih _ _ _ _ _ h; simpa only [List.length_set] using this)
      | (simp only [Option.some.injEq, Prod.mk.injEq] at h; obtain ⟨rfl, rfl⟩ := h; rfl)
theorem laws_markIntS.len (k : Nat) (l0 : List Int) (a1 : Int) (r1 : Int) (r2 : List Int) (h : laws_markIntS.f k l0 a1 = some (r1, r2)) : r2.length = l0.length := laws_markIntS.len_l _ _ _ _ _ _ h
set_option maxRecDepth 100000 in
set_option maxHeartbeats 20000000 in
theorem laws_markIntS.ac (k : Nat) (l0 : List Int) (a1 : Int) (r1 : Int) (r2 : List Int) (h : laws_markIntS.f k l0 a1 = some (r1, r2)) :
    ACalls Try.prog 16 [.own 0 l0.length, .lit (.int .i64 a1)] [.sl 3 1 l0.length false (ints .i64 l0)] (fun v H' => v = .lit (.int .i64 r1) ∧ H' = [.sl 3 1 r2.length false (ints .i64 r2)]) := by
  refine ACalls.ofP [4] Try.func16 rfl (by exact Nat.le_of_ble_eq_true rfl) rfl (by decide) ?_
  simp only [Try.ntmps16, env0, laws_markIntS.f] at h ⊢
  repeat (first | (rw [Option.ite_none_right_eq_some] at h; obtain ⟨_, h⟩ := h) | (rw [Option.ite_none_left_eq_some] at h; obtain ⟨_, h⟩ := h) | (simp only [Option.bind_some] at h))
  refine AWp.seq ?_
  refine AWp.region ?_
  refine L.Y Y.asg ?_
  refine AList.nil ?_
  refine AWp.seq ?_
  refine AWp.seq ?_
  refine AWp.region ?_
  refine L.Y Y.asg ?_
  refine AList.nil ?_
  refine AWp.block ?_
  repeat (first | (rw [Option.ite_none_right_eq_some] at h; obtain ⟨_, h⟩ := h) | (rw [Option.ite_none_left_eq_some] at h; obtain ⟨_, h⟩ := h) | (simp only [Option.bind_some] at h))
  refine AWp.loopI (fun kk e H => kk ≤ k ∧ ∃ (x0 : List Int) (x1 : Int) (x5 : Int), e = [(0, .own 0 x0.length), (1, .lit (.int .i64 x1)), (5, .lit (.int .i64 x5))] ∧ H = [.sl 3 1 x0.length false (ints .i64 x0)] ∧ laws_markIntS.l0 kk x0 x1 x5 = some (r1, r2)) (k := k)
    ⟨_, _, ⟨Nat.le_refl _, _, _, _, rfl, rfl, h⟩, IsPart.at [] [0] base1 (H.c .nil) (E.c (E.c (E.c .nil)))⟩ ?_
  clear h
  rintro k1 e H ⟨hk2, x0, x1, x5, rfl, rfl, h⟩
  cases k1 with
  | zero => exact absurd h (by simp [laws_markIntS.l0])
  | succ k1 =>
  simp only [laws_markIntS.l0] at h
  repeat (first | (rw [Option.ite_none_right_eq_some] at h; obtain ⟨_, h⟩ := h) | (rw [Option.ite_none_left_eq_some] at h; obtain ⟨_, h⟩ := h) | (simp only [Option.bind_some] at h))
  refine AWp.seq ?_
  refine AWp.seq ?_
  refine AWp.region ?_
  refine L.Y Y.mv ?_
  refine L.Y Y.mv ?_
  refine L.Y (Y.ln Try.underlying22) ?_
  refine L.Y Y.bin ?_
  refine AList.nil ?_
  refine W.cond (fun hb => ?_) (fun hb => ?_)
  · have hb3 := hb
    try simp only [decide_eq_true_eq, decide_eq_false_iff_not, Bool.not_eq_true', Bool.not_eq_false', Bool.not_eq_true, Bool.not_eq_false, beq_iff_eq, bne_iff_ne, beq_eq_false_iff_ne, bne_eq_false_iff_eq, ne_eq, Decidable.not_not] at hb
    first | rw [if_pos hb3] at h | rw [if_neg (Bool.eq_false_iff.1 hb3)] at h | rw [if_pos hb] at h | rw [if_neg hb] at h | (simp only [hb, Bool.not_false, Bool.not_true, Bool.false_eq_true, if_true, if_false, reduceIte] at h)
    repeat (first | (rw [Option.ite_none_right_eq_some] at h; obtain ⟨_, h⟩ := h) | (rw [Option.ite_none_left_eq_some] at h; obtain ⟨_, h⟩ := h) | (simp only [Option.bind_some] at h))
    refine AWp.skip ?_
    refine AWp.seq ?_
    refine AWp.block ?_
    refine AWp.seq ?_
    refine AWp.region ?_
    refine L.Y Y.mv ?_
    refine L.Y Y.mv ?_
    refine L.Y Y.mv ?_
    refine L.Y (Y.ixo Try.underlying22 Y3) ?_
    refine L.S (S.sts Y3) ?_
    refine AList.nil ?_
    refine W.kp [0, 1, 5, 9] ?_
    refine AWp.region ?_
    refine L.Y Y.mv ?_
    refine L.Y Y.bin ?_
    refine L.Y Y.asg ?_
    refine AList.nil ?_
    refine AWp.region ?_
    refine L.Y Y.mv ?_
    refine L.Y Y.bin ?_
    refine L.Y Y.asg ?_
    refine AList.nil ?_
    repeat (first | (rw [Option.ite_none_right_eq_some] at h; obtain ⟨_, h⟩ := h) | (rw [Option.ite_none_left_eq_some] at h; obtain ⟨_, h⟩ := h) | (simp only [Option.bind_some] at h))
    exact ⟨k1, by omega, _, _, ⟨by omega, _, _, _, rfl, rfl, h⟩, IsPart.at [] [0] base1 (H.c .nil) (E.c (E.c (E.c .nil)))⟩
  · have hb3 := hb
    try simp only [decide_eq_true_eq, decide_eq_false_iff_not, Bool.not_eq_true', Bool.not_eq_false', Bool.not_eq_true, Bool.not_eq_false, beq_iff_eq, bne_iff_ne, beq_eq_false_iff_ne, bne_eq_false_iff_eq, ne_eq, Decidable.not_not] at hb
    first | rw [if_pos hb3] at h | rw [if_neg (Bool.eq_false_iff.1 hb3)] at h | rw [if_pos hb] at h | rw [if_neg hb] at h | (simp only [hb, Bool.not_false, Bool.not_true, Bool.false_eq_true, if_true, if_false, reduceIte] at h)
    repeat (first | (rw [Option.ite_none_right_eq_some] at h; obtain ⟨_, h⟩ := h) | (rw [Option.ite_none_left_eq_some] at h; obtain ⟨_, h⟩ := h) | (simp only [Option.bind_some] at h))
    refine AWp.exit ?_
    refine AWp.seq ?_
    refine AWp.region ?_
    refine L.Y Y.mv ?_
    refine L.Y Y.asg ?_
    refine AList.nil ?_
    repeat (first | (rw [Option.ite_none_right_eq_some] at h; obtain ⟨_, h⟩ := h) | (rw [Option.ite_none_left_eq_some] at h; obtain ⟨_, h⟩ := h) | (simp only [Option.bind_some] at h))
    simp only [Option.some.injEq, Prod.mk.injEq] at h
    obtain ⟨rfl, rfl⟩ := h
    refine AWp.ret ?_
    exact ⟨.inr rfl, [(4, _)], _, ⟨rfl, rfl⟩, IsPart.at [] [0] base1 (H.c .nil) (E.c .nil)⟩

/-! ### laws_markTable: function 11 -/
def laws_markTable.f (k : Nat) (a0_0 : Int) (a0_1 : Int) (l0_2 : List Int) (a1 : Int) : Option (Int × List Int) := (laws_markIntS.f k l0_2 a1).bind fun bt174 => (some (bt174.1, bt174.2))
theorem laws_markTable.mono : ∀ a0 a1 a2 a3 k, LeO (laws_markTable.f k a0 a1 a2 a3) (laws_markTable.f (k + 1) a0 a1 a2 a3) := by
  intro a0 a1 a2 a3 k
  unfold laws_markTable.f
  repeat' first
      | (with_reducible exact laws_markIntS.mono _ _ _)
      | (with_reducible exact LeO.refl _)
      | (with_reducible exact LeO.none _)
      | (with_reducible refine LeO.ite ?_ ?_)
      | (with_reducible refine LeO.bind ?_ (fun _ => ?_))
      | exact laws_markIntS.mono _ _ _
      | exact LeO.none _
      | refine LeO.ite ?_ ?_
      | refine LeO.bind ?_ (fun _ => ?_)
theorem laws_markTable.len (k : Nat) (a0_0 : Int) (a0_1 : Int) (l0_2 : List Int) (a1 : Int) (r1 : Int) (r2 : List Int) (h : laws_markTable.f k a0_0 a0_1 l0_2 a1 = some (r1, r2)) : r2.length = l0_2.length := by
  unfold laws_markTable.f at h
  obtain ⟨⟨p0_, p1_⟩, h1, h⟩ := Option.bind_eq_some_iff.1 h
  simp only [Option.some.injEq, Prod.mk.injEq] at h
  obtain ⟨rfl, rfl⟩ := h
  exact laws_markIntS.len _ _ _ _ _ h1
set_option maxRecDepth 100000 in
set_option maxHeartbeats 20000000 in
theorem laws_markTable.ac (k : Nat) (a0_0 : Int) (a0_1 : Int) (l0_2 : List Int) (a1 : Int) (r1 : Int) (r2 : List Int) (h : laws_markTable.f k a0_0 a0_1 l0_2 a1 = some (r1, r2)) :
    ACalls Try.prog 11 [.agg [.lit (.int .i64 a0_0), .lit (.int .i64 a0_1), .own 0 l0_2.length], .lit (.int .i64 a1)] [.sl 3 1 l0_2.length false (ints .i64 l0_2)] (fun v H' => v = .lit (.int .i64 r1) ∧ H' = [.sl 3 1 r2.length false (ints .i64 r2)]) := by
  refine ACalls.ofP [4] Try.func11 rfl (by exact Nat.le_of_ble_eq_true rfl) rfl (by decide) ?_
  simp only [Try.ntmps11, env0, laws_markTable.f] at h ⊢
  repeat (first | (rw [Option.ite_none_right_eq_some] at h; obtain ⟨_, h⟩ := h) | (rw [Option.ite_none_left_eq_some] at h; obtain ⟨_, h⟩ := h) | (simp only [Option.bind_some] at h))
  refine AWp.seq ?_
  refine AWp.region ?_
  refine L.M M.bx ?_
  refine L.Y Y.asg ?_
  refine AList.nil ?_
  refine AWp.seq ?_
  refine AWp.region ?_
  refine L.Y (Y.fa (off := 2) Try.underlying26 Y22) ?_
  refine L.S (S.ld Try.underlying22) ?_
  refine L.Y Y.mv ?_
  repeat (first | (rw [Option.ite_none_right_eq_some] at h; obtain ⟨_, h⟩ := h) | (rw [Option.ite_none_left_eq_some] at h; obtain ⟨_, h⟩ := h) | (simp only [Option.bind_some] at h))
  obtain ⟨⟨t174, t175⟩, hc1, h⟩ := Option.bind_eq_some_iff.1 h
  dsimp only at h
  have hl2 := laws_markIntS.len _ _ _ _ _ hc1
  repeat (first | (rw [Option.ite_none_right_eq_some] at h; obtain ⟨_, h⟩ := h) | (rw [Option.ite_none_left_eq_some] at h; obtain ⟨_, h⟩ := h) | (simp only [Option.bind_some] at h))
  refine L.C (C.callE (l := true) [0] Try.func16 (laws_markIntS.ac _ _ _ _ _ hc1) (H.c .nil) ?_)
  refine L.Y Y.asg ?_
  refine AList.nil ?_
  refine AWp.seq ?_
  refine W.kp [0, 1, 2, 4] ?_
  refine AWp.region ?_
  refine L.Y Y.mv ?_
  refine L.Y Y.asg ?_
  refine AList.nil ?_
  repeat (first | (rw [Option.ite_none_right_eq_some] at h; obtain ⟨_, h⟩ := h) | (rw [Option.ite_none_left_eq_some] at h; obtain ⟨_, h⟩ := h) | (simp only [Option.bind_some] at h))
  simp only [Option.some.injEq, Prod.mk.injEq] at h
  obtain ⟨rfl, rfl⟩ := h
  refine AWp.ret ?_
  exact ⟨.inr rfl, [(4, _)], _, ⟨rfl, rfl⟩, IsPart.at [] [0] base1 (H.c .nil) (E.c .nil)⟩

/-! ### laws_heldIntS: function 17 -/
def laws_heldIntS.l0 : Nat → List Int → Int → Int → Option (Int)
  | 0, _, _, _ => none
  | k + 1, x0, x1, x5 => if x5 < (x0.length : Int) then (if 0 ≤ x5 then (if (rd x0 x5) = x1 then (laws_heldIntS.l0 k x0 (wrap64 (x1 + 1)) (wrap64 (x5 + 1))) else (some (-1))) else (none)) else (some x1)
def laws_heldIntS.f (k : Nat) (l0 : List Int) (a1 : Int) : Option (Int) := laws_heldIntS.l0 k l0 a1 0
theorem laws_heldIntS.mono_l : ∀ k, (∀ y0 y1 y2, LeO (laws_heldIntS.l0 k y0 y1 y2) (laws_heldIntS.l0 (k + 1) y0 y1 y2))
  | 0 => fun _ _ _ r h => by simp [laws_heldIntS.l0] at h
  | k + 1 => by
    have ih0 := laws_heldIntS.mono_l k
    · intro y0 y1 y2
      unfold laws_heldIntS.l0
      repeat' first
      | (with_reducible exact ih0 _ _ _)
      | (with_reducible exact LeO.refl _)
      | (with_reducible exact LeO.none _)
      | (with_reducible refine LeO.ite ?_ ?_)
      | (with_reducible refine LeO.bind ?_ (fun _ => ?_))
      | exact ih0 _ _ _
      | exact LeO.none _
      | refine LeO.ite ?_ ?_
      | refine LeO.bind ?_ (fun _ => ?_)
theorem laws_heldIntS.mono : ∀ a0 a1 k, LeO (laws_heldIntS.f k a0 a1) (laws_heldIntS.f (k + 1) a0 a1) := by
  intro a0 a1 k
  have ih0 := laws_heldIntS.mono_l k
  unfold laws_heldIntS.f
  repeat' first
      | (with_reducible exact ih0 _ _ _)
      | (with_reducible exact LeO.refl _)
      | (with_reducible exact LeO.none _)
      | (with_reducible refine LeO.ite ?_ ?_)
      | (with_reducible refine LeO.bind ?_ (fun _ => ?_))
      | exact ih0 _ _ _
      | exact LeO.none _
      | refine LeO.ite ?_ ?_
      | refine LeO.bind ?_ (fun _ => ?_)
set_option maxRecDepth 100000 in
set_option maxHeartbeats 20000000 in
theorem laws_heldIntS.ac (k : Nat) (l0 : List Int) (a1 : Int) (r : Int) (h : laws_heldIntS.f k l0 a1 = some r) :
    ACalls Try.prog 17 [.row 1 l0.length false (ints .i64 l0), .lit (.int .i64 a1)] [] (fun v H' => v = .lit (.int .i64 r) ∧ H' = []) := by
  refine ACalls.ofP [4] Try.func17 rfl (by exact Nat.le_of_ble_eq_true rfl) rfl (by decide) ?_
  simp only [Try.ntmps17, env0, laws_heldIntS.f] at h ⊢
  repeat (first | (rw [Option.ite_none_right_eq_some] at h; obtain ⟨_, h⟩ := h) | (rw [Option.ite_none_left_eq_some] at h; obtain ⟨_, h⟩ := h) | (simp only [Option.bind_some] at h))
  refine AWp.seq ?_
  refine AWp.region ?_
  refine L.Y Y.asg ?_
  refine AList.nil ?_
  refine AWp.seq ?_
  refine AWp.seq ?_
  refine AWp.region ?_
  refine L.Y Y.asg ?_
  refine AList.nil ?_
  refine AWp.block ?_
  repeat (first | (rw [Option.ite_none_right_eq_some] at h; obtain ⟨_, h⟩ := h) | (rw [Option.ite_none_left_eq_some] at h; obtain ⟨_, h⟩ := h) | (simp only [Option.bind_some] at h))
  refine AWp.loopI (fun kk e H => kk ≤ k ∧ ∃ (x1 : Int) (x5 : Int), e = [(0, .row 1 l0.length false (ints .i64 l0)), (1, .lit (.int .i64 x1)), (5, .lit (.int .i64 x5))] ∧ H = [] ∧ laws_heldIntS.l0 kk l0 x1 x5 = some r) (k := k)
    ⟨_, _, ⟨Nat.le_refl _, _, _, rfl, rfl, h⟩, IsPart.at [] [] base0 .nil (E.c (E.c (E.c .nil)))⟩ ?_
  clear h
  rintro k1 e H ⟨hk2, x1, x5, rfl, rfl, h⟩
  cases k1 with
  | zero => exact absurd h (by simp [laws_heldIntS.l0])
  | succ k1 =>
  simp only [laws_heldIntS.l0] at h
  repeat (first | (rw [Option.ite_none_right_eq_some] at h; obtain ⟨_, h⟩ := h) | (rw [Option.ite_none_left_eq_some] at h; obtain ⟨_, h⟩ := h) | (simp only [Option.bind_some] at h))
  refine AWp.seq ?_
  refine AWp.seq ?_
  refine AWp.region ?_
  refine L.Y Y.mv ?_
  refine L.Y Y.mv ?_
  refine L.Y (Y.ln Try.underlying22) ?_
  refine L.Y Y.bin ?_
  refine AList.nil ?_
  refine W.cond (fun hb => ?_) (fun hb => ?_)
  · have hb3 := hb
    try simp only [decide_eq_true_eq, decide_eq_false_iff_not, Bool.not_eq_true', Bool.not_eq_false', Bool.not_eq_true, Bool.not_eq_false, beq_iff_eq, bne_iff_ne, beq_eq_false_iff_ne, bne_eq_false_iff_eq, ne_eq, Decidable.not_not] at hb
    first | rw [if_pos hb3] at h | rw [if_neg (Bool.eq_false_iff.1 hb3)] at h | rw [if_pos hb] at h | rw [if_neg hb] at h | (simp only [hb, Bool.not_false, Bool.not_true, Bool.false_eq_true, if_true, if_false, reduceIte] at h)
    repeat (first | (rw [Option.ite_none_right_eq_some] at h; obtain ⟨_, h⟩ := h) | (rw [Option.ite_none_left_eq_some] at h; obtain ⟨_, h⟩ := h) | (simp only [Option.bind_some] at h))
    refine AWp.skip ?_
    refine AWp.seq ?_
    refine AWp.block ?_
    refine AWp.seq ?_
    refine AWp.seq ?_
    refine AWp.region ?_
    refine L.Y Y.mv ?_
    refine L.Y Y.mv ?_
    refine L.Y (Y.ixr Try.underlying22 Y3) ?_
    refine L.S (S.ld Try.underlying3) ?_
    refine L.Y Y.mv ?_
    refine L.Y Y.bin ?_
    refine AList.nil ?_
    refine W.cond (fun hb => ?_) (fun hb => ?_)
    · have hb4 := hb
      try simp only [decide_eq_true_eq, decide_eq_false_iff_not, Bool.not_eq_true', Bool.not_eq_false', Bool.not_eq_true, Bool.not_eq_false, beq_iff_eq, bne_iff_ne, beq_eq_false_iff_ne, bne_eq_false_iff_eq, ne_eq, Decidable.not_not] at hb
      first | rw [if_pos hb4] at h | rw [if_neg (Bool.eq_false_iff.1 hb4)] at h | rw [if_pos hb] at h | rw [if_neg hb] at h | (simp only [hb, Bool.not_false, Bool.not_true, Bool.false_eq_true, if_true, if_false, reduceIte] at h)
      repeat (first | (rw [Option.ite_none_right_eq_some] at h; obtain ⟨_, h⟩ := h) | (rw [Option.ite_none_left_eq_some] at h; obtain ⟨_, h⟩ := h) | (simp only [Option.bind_some] at h))
      refine AWp.seq ?_
      refine W.kp [0, 1, 5, 9, 17] ?_
      refine AWp.region ?_
      refine L.Y Y.asg ?_
      refine AList.nil ?_
      repeat (first | (rw [Option.ite_none_right_eq_some] at h; obtain ⟨_, h⟩ := h) | (rw [Option.ite_none_left_eq_some] at h; obtain ⟨_, h⟩ := h) | (simp only [Option.bind_some] at h))
      obtain rfl := Option.some.inj h
      refine AWp.ret ?_
      exact ⟨.inr rfl, [(4, _)], _, ⟨rfl, rfl⟩, IsPart.at [] [] base0 .nil (E.c .nil)⟩
    · have hb4 := hb
      try simp only [decide_eq_true_eq, decide_eq_false_iff_not, Bool.not_eq_true', Bool.not_eq_false', Bool.not_eq_true, Bool.not_eq_false, beq_iff_eq, bne_iff_ne, beq_eq_false_iff_ne, bne_eq_false_iff_eq, ne_eq, Decidable.not_not] at hb
      first | rw [if_pos hb4] at h | rw [if_neg (Bool.eq_false_iff.1 hb4)] at h | rw [if_pos hb] at h | rw [if_neg hb] at h | (simp only [hb, Bool.not_false, Bool.not_true, Bool.false_eq_true, if_true, if_false, reduceIte] at h)
      repeat (first | (rw [Option.ite_none_right_eq_some] at h; obtain ⟨_, h⟩ := h) | (rw [Option.ite_none_left_eq_some] at h; obtain ⟨_, h⟩ := h) | (simp only [Option.bind_some] at h))
      refine AWp.skip ?_
      refine W.kp [0, 1, 5, 9, 17] ?_
      refine AWp.region ?_
      refine L.Y Y.mv ?_
      refine L.Y Y.bin ?_
      refine L.Y Y.asg ?_
      refine AList.nil ?_
      refine AWp.region ?_
      refine L.Y Y.mv ?_
      refine L.Y Y.bin ?_
      refine L.Y Y.asg ?_
      refine AList.nil ?_
      repeat (first | (rw [Option.ite_none_right_eq_some] at h; obtain ⟨_, h⟩ := h) | (rw [Option.ite_none_left_eq_some] at h; obtain ⟨_, h⟩ := h) | (simp only [Option.bind_some] at h))
      exact ⟨k1, by omega, _, _, ⟨by omega, _, _, rfl, rfl, h⟩, IsPart.at [] [] base0 .nil (E.c (E.c (E.c .nil)))⟩
  · have hb3 := hb
    try simp only [decide_eq_true_eq, decide_eq_false_iff_not, Bool.not_eq_true', Bool.not_eq_false', Bool.not_eq_true, Bool.not_eq_false, beq_iff_eq, bne_iff_ne, beq_eq_false_iff_ne, bne_eq_false_iff_eq, ne_eq, Decidable.not_not] at hb
    first | rw [if_pos hb3] at h | rw [if_neg (Bool.eq_false_iff.1 hb3)] at h | rw [if_pos hb] at h | rw [if_neg hb] at h | (simp only [hb, Bool.not_false, Bool.not_true, Bool.false_eq_true, if_true, if_false, reduceIte] at h)
    repeat (first | (rw [Option.ite_none_right_eq_some] at h; obtain ⟨_, h⟩ := h) | (rw [Option.ite_none_left_eq_some] at h; obtain ⟨_, h⟩ := h) | (simp only [Option.bind_some] at h))
    refine AWp.exit ?_
    refine AWp.seq ?_
    refine AWp.region ?_
    refine L.Y Y.mv ?_
    refine L.Y Y.asg ?_
    refine AList.nil ?_
    repeat (first | (rw [Option.ite_none_right_eq_some] at h; obtain ⟨_, h⟩ := h) | (rw [Option.ite_none_left_eq_some] at h; obtain ⟨_, h⟩ := h) | (simp only [Option.bind_some] at h))
    obtain rfl := Option.some.inj h
    refine AWp.ret ?_
    exact ⟨.inr rfl, [(4, _)], _, ⟨rfl, rfl⟩, IsPart.at [] [] base0 .nil (E.c .nil)⟩

end Go.Proofs.Ytakabmokpknknaa.PFnExactMeetTables
