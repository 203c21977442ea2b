-- Written by a program of this session's (wip/myprint2): the functions by the kit's print, the walks by awgen.py. Lean checks it.
import Derived.Test.YtakabmokpknknaaPFnExactMeetTablesx0
import Derived.Test.YtakabmokpknknaaPFnExactMeetTablesx1
import Derived.Test.YtakabmokpknknaaPFnExactMeetTablesx2
import Derived.Test.YtakabmokpknknaaPFnExactMeetTablesx3
import Derived.Test.YtakabmokpknknaaPFnExactMeetTablesx4
namespace Go.Proofs.Ytakabmokpknknaa.PFnExactMeetTables
open Go.RowKit Go.Proofs.YtakabmokpknknaaW.PrintWords Go.Proofs.YtakabmokpknknaaW.PrintLast Go.Proofs.YtakabmokpknknaaW.PrintMore Go.Proofs.YtakabmokpknknaaM Go.Proofs.YtakabmokpknknaaA
attribute [local go_sem] max2_int min2_int max_two min_two max_three min_three max_four min_four   -- for this text's walks alone
set_option linter.unusedVariables false
set_option linter.unusedSimpArgs false

/-! ### laws_FnExactMeetTables: function 3 -/
mutual
def laws_FnExactMeetTables.j0 : Nat → Bool → Bool → Bool → Int → Int → List Int → Int → Int → List Int → Int → Int → List Int → Int → Int → List Int → Int → Int → List Int → Int → Int → List Int → Option (Bool)
  | 0, _, _, _, _, _, _, _, _, _, _, _, _, _, _, _, _, _, _, _, _, _ => none
  | k + 1, x7, x11, x53, x180000, x180001, x180002, x181000, x181001, x181002, x200000, x200001, x200002, x206000, x206001, x206002, x212000, x212001, x212002, x219000, x219001, x219002 => if x53 = true then (some false) else ((laws_toTable.f k x180000 x180001 x180002).bind fun bt220 => ((laws_eqTable.f k x206000 x206001 x206002 bt220.1 bt220.2.1 bt220.2.2).bind fun t225 => (if t225 = true then ((laws_toTable.f k x181000 x181001 x181002).bind fun bt226 => ((laws_eqTable.f k x212000 x212001 x212002 bt226.1 bt226.2.1 bt226.2.2).bind fun t231 => (if t231 = true then ((laws_markTable.f k x206000 x206001 x206002 1).bind fun bt232 => ((laws_markTable.f k x212000 x212001 x212002 bt232.1).bind fun bt234 => (if bt234.1 < 0 then (laws_FnExactMeetTables.j1 k x7 true x180000 x180001 x180002 x181000 x181001 x181002 x200000 x200001 x200002 x219000 x219001 x219002) else ((laws_eqTable.f k x219000 x219001 x219002 x200000 x200001 x200002).bind fun t236 => (if t236 = true then (laws_FnExactMeetTables.j1 k x7 (x11 != x7) x180000 x180001 x180002 x181000 x181001 x181002 x200000 x200001 x200002 x219000 x219001 x219002) else (laws_FnExactMeetTables.j1 k x7 true x180000 x180001 x180002 x181000 x181001 x181002 x200000 x200001 x200002 x219000 x219001 x219002)))))) else (some false)))) else (some false))))
def laws_FnExactMeetTables.j1 : Nat → Bool → Bool → Int → Int → List Int → Int → Int → List Int → Int → Int → List Int → Int → Int → List Int → Option (Bool)
  | 0, _, _, _, _, _, _, _, _, _, _, _, _, _, _ => none
  | k + 1, x7, x82, x180000, x180001, x180002, x181000, x181001, x181002, x200000, x200001, x200002, x219000, x219001, x219002 => if x82 = true then (some false) else ((laws_markTable.f k x219000 x219001 x219002 1).bind fun bt237 => ((laws_heldTable.f k x219000 x219001 bt237.2 1).bind fun t239 => (if t239 < 0 then (some false) else (if t239 = bt237.1 then ((laws_toTable.f k x180000 x180001 x180002).bind fun bt240 => ((laws_toTable.f k x181000 x181001 x181002).bind fun bt245 => ((impl_MeetTables.f k bt240.1 bt240.2.1 bt240.2.2 bt245.1 bt245.2.1 bt245.2.2).bind fun bt250 => ((laws_eqTable.f k bt250.1 bt250.2.1 bt250.2.2.1 x200000 x200001 x200002).bind fun t257 => (if t257 = true then (laws_FnExactMeetTables.j2 k bt237.1 (bt250.2.2.2 != x7) x219000 x219001 bt237.2) else (laws_FnExactMeetTables.j2 k bt237.1 true x219000 x219001 bt237.2)))))) else (some false)))))
def laws_FnExactMeetTables.j2 : Nat → Int → Bool → Int → Int → List Int → Option (Bool)
  | 0, _, _, _, _, _ => none
  | k + 1, x13, x110, x219000, x219001, x219002 => if x110 = true then (some false) else ((laws_heldTable.f k x219000 x219001 x219002 1).bind fun t258 => (if t258 < 0 then (some false) else (if t258 = x13 then (some true) else (some false))))
end
def laws_FnExactMeetTables.f (k : Nat) (a0_0 : Int) (a0_1 : Int) (l0_2 : List Int) (a1_0 : Int) (a1_1 : Int) (l1_2 : List Int) : Option (Bool) := (laws_szTable.f a0_0 a0_1 l0_2 1048576).bind fun t181 => (if t181 < 0 then (some true) else ((laws_szTable.f a1_0 a1_1 l1_2 t181).bind fun t182 => (if t182 < 0 then (some true) else ((laws_toTable.f k a0_0 a0_1 l0_2).bind fun bt183 => ((laws_toTable.f k a1_0 a1_1 l1_2).bind fun bt188 => ((spec_MeetTables.f k bt183.1 bt183.2.1 bt183.2.2 bt188.1 bt188.2.1 bt188.2.2).bind fun bt193 => ((laws_toTable.f k a0_0 a0_1 l0_2).bind fun bt200 => ((laws_toTable.f k a1_0 a1_1 l1_2).bind fun bt206 => ((impl_MeetTables.f k bt200.1 bt200.2.1 bt200.2.2 bt206.1 bt206.2.1 bt206.2.2).bind fun bt212 => ((laws_eqTable.f k bt212.1 bt212.2.1 bt212.2.2.1 bt193.1 bt193.2.1 bt193.2.2.1).bind fun t219 => (if t219 = true then (laws_FnExactMeetTables.j0 k bt193.2.2.2 bt212.2.2.2 (bt212.2.2.2 != bt193.2.2.2) a0_0 a0_1 l0_2 a1_0 a1_1 l1_2 bt193.1 bt193.2.1 bt193.2.2.1 bt200.1 bt200.2.1 bt200.2.2 bt206.1 bt206.2.1 bt206.2.2 bt212.1 bt212.2.1 bt212.2.2.1) else (laws_FnExactMeetTables.j0 k bt193.2.2.2 bt212.2.2.2 true a0_0 a0_1 l0_2 a1_0 a1_1 l1_2 bt193.1 bt193.2.1 bt193.2.2.1 bt200.1 bt200.2.1 bt200.2.2 bt206.1 bt206.2.1 bt206.2.2 bt212.1 bt212.2.1 bt212.2.2.1))))))))))))
theorem laws_FnExactMeetTables.mono_l : ∀ k, (∀ y0 y1 y2 y3 y4 y5 y6 y7 y8 y9 y10 y11 y12 y13 y14 y15 y16 y17 y18 y19 y20, LeO (laws_FnExactMeetTables.j0 k y0 y1 y2 y3 y4 y5 y6 y7 y8 y9 y10 y11 y12 y13 y14 y15 y16 y17 y18 y19 y20) (laws_FnExactMeetTables.j0 (k + 1) y0 y1 y2 y3 y4 y5 y6 y7 y8 y9 y10 y11 y12 y13 y14 y15 y16 y17 y18 y19 y20)) ∧ (∀ y0 y1 y2 y3 y4 y5 y6 y7 y8 y9 y10 y11 y12 y13, LeO (laws_FnExactMeetTables.j1 k y0 y1 y2 y3 y4 y5 y6 y7 y8 y9 y10 y11 y12 y13) (laws_FnExactMeetTables.j1 (k + 1) y0 y1 y2 y3 y4 y5 y6 y7 y8 y9 y10 y11 y12 y13)) ∧ (∀ y0 y1 y2 y3 y4, LeO (laws_FnExactMeetTables.j2 k y0 y1 y2 y3 y4) (laws_FnExactMeetTables.j2 (k + 1) y0 y1 y2 y3 y4))
  | 0 => ⟨fun _ _ _ _ _ _ _ _ _ _ _ _ _ _ _ _ _ _ _ _ _ r h => by simp [laws_FnExactMeetTables.j0] at h, fun _ _ _ _ _ _ _ _ _ _ _ _ _ _ r h => by simp [laws_FnExactMeetTables.j1] at h, fun _ _ _ _ _ r h => by simp [laws_FnExactMeetTables.j2] at h⟩
  | k + 1 => by
    obtain ⟨ih0, ih1, ih2⟩ := laws_FnExactMeetTables.mono_l k
    refine ⟨?_, ?_, ?_⟩
    · intro y0 y1 y2 y3 y4 y5 y6 y7 y8 y9 y10 y11 y12 y13 y14 y15 y16 y17 y18 y19 y20
      unfold laws_FnExactMeetTables.j0
      repeat' first
      | (with_reducible exact ih0 _ _ _ _ _ _ _ _ _ _ _ _ _ _ _ _ _ _ _ _ _)
      | (with_reducible exact ih1 _ _ _ _ _ _ _ _ _ _ _ _ _ _)
      | (with_reducible exact ih2 _ _ _ _ _)
      | (with_reducible exact impl_MeetTables.mono _ _ _ _ _ _ _)
      | (with_reducible exact laws_eqTable.mono _ _ _ _ _ _ _)
      | (with_reducible exact laws_heldTable.mono _ _ _ _ _)
      | (with_reducible exact laws_markTable.mono _ _ _ _ _)
      | (with_reducible exact laws_toTable.mono _ _ _ _)
      | (with_reducible exact spec_MeetTables.mono _ _ _ _ _ _ _)
      | (with_reducible exact LeO.refl _)
      | (with_reducible exact LeO.none _)
      | (with_reducible refine LeO.ite ?_ ?_)
      | (with_reducible refine LeO.bind ?_ (fun _ => ?_))
      | exact ih0 _ _ _ _ _ _ _ _ _ _ _ _ _ _ _ _ _ _ _ _ _
      | exact ih1 _ _ _ _ _ _ _ _ _ _ _ _ _ _
      | exact ih2 _ _ _ _ _
      | exact impl_MeetTables.mono _ _ _ _ _ _ _
      | exact laws_eqTable.mono _ _ _ _ _ _ _
      | exact laws_heldTable.mono _ _ _ _ _
      | exact laws_markTable.mono _ _ _ _ _
      | exact laws_toTable.mono _ _ _ _
      | exact spec_MeetTables.mono _ _ _ _ _ _ _
      | exact LeO.none _
      | refine LeO.ite ?_ ?_
      | refine LeO.bind ?_ (fun _ => ?_)
    · intro y0 y1 y2 y3 y4 y5 y6 y7 y8 y9 y10 y11 y12 y13
      unfold laws_FnExactMeetTables.j1
      repeat' first
      | (with_reducible exact ih0 _ _ _ _ _ _ _ _ _ _ _ _ _ _ _ _ _ _ _ _ _)
      | (with_reducible exact ih1 _ _ _ _ _ _ _ _ _ _ _ _ _ _)
      | (with_reducible exact ih2 _ _ _ _ _)
      | (with_reducible exact impl_MeetTables.mono _ _ _ _ _ _ _)
      | (with_reducible exact laws_eqTable.mono _ _ _ _ _ _ _)
      | (with_reducible exact laws_heldTable.mono _ _ _ _ _)
      | (with_reducible exact laws_markTable.mono _ _ _ _ _)
      | (with_reducible exact laws_toTable.mono _ _ _ _)
      | (with_reducible exact spec_MeetTables.mono _ _ _ _ _ _ _)
      | (with_reducible exact LeO.refl _)
      | (with_reducible exact LeO.none _)
      | (with_reducible refine LeO.ite ?_ ?_)
      | (with_reducible refine LeO.bind ?_ (fun _ => ?_))
      | exact ih0 _ _ _ _ _ _ _ _ _ _ _ _ _ _ _ _ _ _ _ _ _
      | exact ih1 _ _ _ _ _ _ _ _ _ _ _ _ _ _
      | exact ih2 _ _ _ _ _
      | exact impl_MeetTables.mono _ _ _ _ _ _ _
      | exact laws_eqTable.mono _ _ _ _ _ _ _
      | exact laws_heldTable.mono _ _ _ _ _
      | exact laws_markTable.mono _ _ _ _ _
      | exact laws_toTable.mono _ _ _ _
      | exact spec_MeetTables.mono _ _ _ _ _ _ _
      | exact LeO.none _
      | refine LeO.ite ?_ ?_
      | refine LeO.bind ?_ (fun _ => ?_)
    · intro y0 y1 y2 y3 y4
      unfold laws_FnExactMeetTables.j2
      repeat' first
      | (with_reducible exact ih0 _ _ _ _ _ _ _ _ _ _ _ _ _ _ _ _ _ _ _ _ _)
      | (with_reducible exact ih1 _ _ _ _ _ _ _ _ _ _ _ _ _ _)
      | (with_reducible exact ih2 _ _ _ _ _)
      | (with_reducible exact impl_MeetTables.mono _ _ _ _ _ _ _)
      | (with_reducible exact laws_eqTable.mono _ _ _ _ _ _ _)
      | (with_reducible exact laws_heldTable.mono _ _ _ _ _)
      | (with_reducible exact laws_markTable.mono _ _ _ _ _)
      | (with_reducible exact laws_toTable.mono _ _ _ _)
      | (with_reducible exact spec_MeetTables.mono _ _ _ _ _ _ _)
      | (with_reducible exact LeO.refl _)
      | (with_reducible exact LeO.none _)
      | (with_reducible refine LeO.ite ?_ ?_)
      | (with_reducible refine LeO.bind ?_ (fun _ => ?_))
      | exact ih0 _ _ _ _ _ _ _ _ _ _ _ _ _ _ _ _ _ _ _ _ _
      | exact ih1 _ _ _ _ _ _ _ _ _ _ _ _ _ _
      | exact ih2 _ _ _ _ _
      | exact impl_MeetTables.mono _ _ _ _ _ _ _
      | exact laws_eqTable.mono _ _ _ _ _ _ _
      | exact laws_heldTable.mono _ _ _ _ _
      | exact laws_markTable.mono _ _ _ _ _
      | exact laws_toTable.mono _ _ _ _
      | exact spec_MeetTables.mono _ _ _ _ _ _ _
      | exact LeO.none _
      | refine LeO.ite ?_ ?_
      | refine LeO.bind ?_ (fun _ => ?_)
theorem laws_FnExactMeetTables.mono : ∀ a0 a1 a2 a3 a4 a5 k, LeO (laws_FnExactMeetTables.f k a0 a1 a2 a3 a4 a5) (laws_FnExactMeetTables.f (k + 1) a0 a1 a2 a3 a4 a5) := by
  intro a0 a1 a2 a3 a4 a5 k
  obtain ⟨ih0, ih1, ih2⟩ := laws_FnExactMeetTables.mono_l k
  unfold laws_FnExactMeetTables.f
  repeat' first
      | (with_reducible exact ih0 _ _ _ _ _ _ _ _ _ _ _ _ _ _ _ _ _ _ _ _ _)
      | (with_reducible exact ih1 _ _ _ _ _ _ _ _ _ _ _ _ _ _)
      | (with_reducible exact ih2 _ _ _ _ _)
      | (with_reducible exact impl_MeetTables.mono _ _ _ _ _ _ _)
      | (with_reducible exact laws_eqTable.mono _ _ _ _ _ _ _)
      | (with_reducible exact laws_heldTable.mono _ _ _ _ _)
      | (with_reducible exact laws_markTable.mono _ _ _ _ _)
      | (with_reducible exact laws_toTable.mono _ _ _ _)
      | (with_reducible exact spec_MeetTables.mono _ _ _ _ _ _ _)
      | (with_reducible exact LeO.refl _)
      | (with_reducible exact LeO.none _)
      | (with_reducible refine LeO.ite ?_ ?_)
      | (with_reducible refine LeO.bind ?_ (fun _ => ?_))
      | exact ih0 _ _ _ _ _ _ _ _ _ _ _ _ _ _ _ _ _ _ _ _ _
      | exact ih1 _ _ _ _ _ _ _ _ _ _ _ _ _ _
      | exact ih2 _ _ _ _ _
      | exact impl_MeetTables.mono _ _ _ _ _ _ _
      | exact laws_eqTable.mono _ _ _ _ _ _ _
      | exact laws_heldTable.mono _ _ _ _ _
      | exact laws_markTable.mono _ _ _ _ _
      | exact laws_toTable.mono _ _ _ _
      | exact spec_MeetTables.mono _ _ _ _ _ _ _
      | exact LeO.none _
      | refine LeO.ite ?_ ?_
      | refine LeO.bind ?_ (fun _ => ?_)
set_option maxRecDepth 100000 in
set_option maxHeartbeats 20000000 in
theorem laws_FnExactMeetTables.ac (k : Nat) (a0_0 : Int) (a0_1 : Int) (l0_2 : List Int) (a1_0 : Int) (a1_1 : Int) (l1_2 : List Int)  (h : laws_FnExactMeetTables.f k a0_0 a0_1 l0_2 a1_0 a1_1 l1_2 = some true) :
    ACalls Try.prog 3 [.agg [.lit (.int .i64 a0_0), .lit (.int .i64 a0_1), .row 1 l0_2.length false (ints .i64 l0_2)], .agg [.lit (.int .i64 a1_0), .lit (.int .i64 a1_1), .row 1 l1_2.length false (ints .i64 l1_2)]] [] (fun v H' => v = .lit (.bool true) ∧ H' = []) := by
  refine ACalls.ofP [4] Try.func3 rfl (by exact Nat.le_of_ble_eq_true rfl) rfl (by decide) ?_
  simp only [Try.ntmps3, env0, laws_FnExactMeetTables.f] at h ⊢
  repeat (first | (rw [Option.ite_none_right_eq_some] at h; obtain ⟨_, h⟩ := h) | (rw [Option.ite_none_left_eq_some] at h; obtain ⟨_, h⟩ := h) | (simp only [Option.bind_some] at h))
  refine AWp.seq ?_
  refine AWp.region ?_
  refine L.M M.bx ?_
  refine L.M M.bx ?_
  refine L.Y Y.asg ?_
  refine AList.nil ?_
  refine AWp.seq ?_
  refine AWp.region ?_
  refine L.Y Y.asg ?_
  refine AList.nil ?_
  refine AWp.seq ?_
  refine AWp.region ?_
  refine L.S (S.ldN Try.underlying24 Y24) ?_
  refine L.Y Y.mv ?_
  repeat (first | (rw [Option.ite_none_right_eq_some] at h; obtain ⟨_, h⟩ := h) | (rw [Option.ite_none_left_eq_some] at h; obtain ⟨_, h⟩ := h) | (simp only [Option.bind_some] at h))
  obtain ⟨t181, hc1, h⟩ := Option.bind_eq_some_iff.1 h
  repeat (first | (rw [Option.ite_none_right_eq_some] at h; obtain ⟨_, h⟩ := h) | (rw [Option.ite_none_left_eq_some] at h; obtain ⟨_, h⟩ := h) | (simp only [Option.bind_some] at h))
  refine L.C (C.callE (l := true) [] Try.func6 (laws_szTable.ac _ _ _ _ _ hc1) .nil ?_)
  refine L.Y Y.asg ?_
  refine AList.nil ?_
  refine AWp.seq ?_
  refine AWp.seq ?_
  refine AWp.region ?_
  refine L.Y Y.mv ?_
  refine L.Y Y.bin ?_
  refine AList.nil ?_
  refine W.cond (fun hb => ?_) (fun hb => ?_)
  · have hb2 := hb
    try simp only [decide_eq_true_eq, decide_eq_false_iff_not, Bool.not_eq_true', Bool.not_eq_false', Bool.not_eq_true, Bool.not_eq_false, beq_iff_eq, bne_iff_ne, beq_eq_false_iff_ne, bne_eq_false_iff_eq, ne_eq, Decidable.not_not] at hb
    first | rw [if_pos hb2] at h | rw [if_neg (Bool.eq_false_iff.1 hb2)] at h | rw [if_pos hb] at h | rw [if_neg hb] at h | (simp only [hb, Bool.not_false, Bool.not_true, Bool.false_eq_true, if_true, if_false, reduceIte] at h)
    repeat (first | (rw [Option.ite_none_right_eq_some] at h; obtain ⟨_, h⟩ := h) | (rw [Option.ite_none_left_eq_some] at h; obtain ⟨_, h⟩ := h) | (simp only [Option.bind_some] at h))
    refine AWp.seq ?_
    refine W.kp [0, 1, 2, 3, 4, 5, 21] ?_
    refine AWp.region ?_
    refine L.Y Y.asg ?_
    refine AList.nil ?_
    repeat (first | (rw [Option.ite_none_right_eq_some] at h; obtain ⟨_, h⟩ := h) | (rw [Option.ite_none_left_eq_some] at h; obtain ⟨_, h⟩ := h) | (simp only [Option.bind_some] at h))
    refine AWp.ret ?_
    first | (exfalso; cases h; done) | exact ⟨.inr rfl, [(4, _)], _, ⟨rfl, rfl⟩, IsPart.at [] [] base0 .nil (E.c .nil)⟩
  · have hb2 := hb
    try simp only [decide_eq_true_eq, decide_eq_false_iff_not, Bool.not_eq_true', Bool.not_eq_false', Bool.not_eq_true, Bool.not_eq_false, beq_iff_eq, bne_iff_ne, beq_eq_false_iff_ne, bne_eq_false_iff_eq, ne_eq, Decidable.not_not] at hb
    first | rw [if_pos hb2] at h | rw [if_neg (Bool.eq_false_iff.1 hb2)] at h | rw [if_pos hb] at h | rw [if_neg hb] at h | (simp only [hb, Bool.not_false, Bool.not_true, Bool.false_eq_true, if_true, if_false, reduceIte] at h)
    repeat (first | (rw [Option.ite_none_right_eq_some] at h; obtain ⟨_, h⟩ := h) | (rw [Option.ite_none_left_eq_some] at h; obtain ⟨_, h⟩ := h) | (simp only [Option.bind_some] at h))
    refine AWp.skip ?_
    refine AWp.seq ?_
    refine W.kp [0, 1, 2, 3, 4, 5, 21] ?_
    refine AWp.region ?_
    refine L.S (S.ldN Try.underlying24 Y24) ?_
    refine L.Y Y.mv ?_
    repeat (first | (rw [Option.ite_none_right_eq_some] at h; obtain ⟨_, h⟩ := h) | (rw [Option.ite_none_left_eq_some] at h; obtain ⟨_, h⟩ := h) | (simp only [Option.bind_some] at h))
    obtain ⟨t182, hc3, h⟩ := Option.bind_eq_some_iff.1 h
    repeat (first | (rw [Option.ite_none_right_eq_some] at h; obtain ⟨_, h⟩ := h) | (rw [Option.ite_none_left_eq_some] at h; obtain ⟨_, h⟩ := h) | (simp only [Option.bind_some] at h))
    refine L.C (C.callE (l := true) [] Try.func6 (laws_szTable.ac _ _ _ _ _ hc3) .nil ?_)
    refine L.Y Y.asg ?_
    refine AList.nil ?_
    refine AWp.seq ?_
    refine AWp.seq ?_
    refine AWp.region ?_
    refine L.Y Y.mv ?_
    refine L.Y Y.bin ?_
    refine AList.nil ?_
    refine W.cond (fun hb => ?_) (fun hb => ?_)
    · have hb4 := hb
      try simp only [decide_eq_true_eq, decide_eq_false_iff_not, Bool.not_eq_true', Bool.not_eq_false', Bool.not_eq_true, Bool.not_eq_false, beq_iff_eq, bne_iff_ne, beq_eq_false_iff_ne, bne_eq_false_iff_eq, ne_eq, Decidable.not_not] at hb
      first | rw [if_pos hb4] at h | rw [if_neg (Bool.eq_false_iff.1 hb4)] at h | rw [if_pos hb] at h | rw [if_neg hb] at h | (simp only [hb, Bool.not_false, Bool.not_true, Bool.false_eq_true, if_true, if_false, reduceIte] at h)
      repeat (first | (rw [Option.ite_none_right_eq_some] at h; obtain ⟨_, h⟩ := h) | (rw [Option.ite_none_left_eq_some] at h; obtain ⟨_, h⟩ := h) | (simp only [Option.bind_some] at h))
      refine AWp.seq ?_
      refine W.kp [0, 1, 2, 3, 4, 5, 21, 26] ?_
      refine AWp.region ?_
      refine L.Y Y.asg ?_
      refine AList.nil ?_
      repeat (first | (rw [Option.ite_none_right_eq_some] at h; obtain ⟨_, h⟩ := h) | (rw [Option.ite_none_left_eq_some] at h; obtain ⟨_, h⟩ := h) | (simp only [Option.bind_some] at h))
      refine AWp.ret ?_
      first | (exfalso; cases h; done) | exact ⟨.inr rfl, [(4, _)], _, ⟨rfl, rfl⟩, IsPart.at [] [] base0 .nil (E.c .nil)⟩
    · have hb4 := hb
      try simp only [decide_eq_true_eq, decide_eq_false_iff_not, Bool.not_eq_true', Bool.not_eq_false', Bool.not_eq_true, Bool.not_eq_false, beq_iff_eq, bne_iff_ne, beq_eq_false_iff_ne, bne_eq_false_iff_eq, ne_eq, Decidable.not_not] at hb
      first | rw [if_pos hb4] at h | rw [if_neg (Bool.eq_false_iff.1 hb4)] at h | rw [if_pos hb] at h | rw [if_neg hb] at h | (simp only [hb, Bool.not_false, Bool.not_true, Bool.false_eq_true, if_true, if_false, reduceIte] at h)
      repeat (first | (rw [Option.ite_none_right_eq_some] at h; obtain ⟨_, h⟩ := h) | (rw [Option.ite_none_left_eq_some] at h; obtain ⟨_, h⟩ := h) | (simp only [Option.bind_some] at h))
      refine AWp.skip ?_
      refine AWp.seq ?_
      refine W.kp [0, 1, 2, 3, 4, 5, 21, 26] ?_
      repeat (first | (rw [Option.ite_none_right_eq_some] at h; obtain ⟨_, h⟩ := h) | (rw [Option.ite_none_left_eq_some] at h; obtain ⟨_, h⟩ := h) | (simp only [Option.bind_some] at h))
      obtain ⟨⟨t183, t184, t185⟩, hc5, h⟩ := Option.bind_eq_some_iff.1 h
      dsimp only at h
      repeat (first | (rw [Option.ite_none_right_eq_some] at h; obtain ⟨_, h⟩ := h) | (rw [Option.ite_none_left_eq_some] at h; obtain ⟨_, h⟩ := h) | (simp only [Option.bind_some] at h))
      repeat (first | (rw [Option.ite_none_right_eq_some] at h; obtain ⟨_, h⟩ := h) | (rw [Option.ite_none_left_eq_some] at h; obtain ⟨_, h⟩ := h) | (simp only [Option.bind_some] at h))
      obtain ⟨⟨t188, t189, t190⟩, hc6, h⟩ := Option.bind_eq_some_iff.1 h
      dsimp only at h
      repeat (first | (rw [Option.ite_none_right_eq_some] at h; obtain ⟨_, h⟩ := h) | (rw [Option.ite_none_left_eq_some] at h; obtain ⟨_, h⟩ := h) | (simp only [Option.bind_some] at h))
      repeat (first | (rw [Option.ite_none_right_eq_some] at h; obtain ⟨_, h⟩ := h) | (rw [Option.ite_none_left_eq_some] at h; obtain ⟨_, h⟩ := h) | (simp only [Option.bind_some] at h))
      obtain ⟨⟨t193, t194, t195, t198⟩, hc7, h⟩ := Option.bind_eq_some_iff.1 h
      dsimp only at h
      repeat (first | (rw [Option.ite_none_right_eq_some] at h; obtain ⟨_, h⟩ := h) | (rw [Option.ite_none_left_eq_some] at h; obtain ⟨_, h⟩ := h) | (simp only [Option.bind_some] at h))
      apply AWp.joinX
      · refine Dt.reg [] [9] (.t 0 (.t 2 (.two 1 (.two 3 (.two 4 (.y 5 (.y 6 (.y 7 (.one 8 (.last 9 (.y 10 .done)))))) 8 (.one 4 (.y 5 (.y 6 (.y 7 (.last 9 (.y 10 .done))))))) 8 (.one 3 (.one 4 (.y 5 (.y 6 (.y 7 (.last 9 (.y 10 .done)))))))) 8 (.one 1 (.one 3 (.one 4 (.y 5 (.y 6 (.y 7 (.last 9 (.y 10 .done))))))))))) HM ?_
        refine Dt.T rfl wantN (D.ldN Try.underlying24 Y24) ?_
        refine Dt.T rfl wantN (D.ldN Try.underlying24 Y24) ?_
        refine Dt.B (g1 := false) (g2 := false) rfl rfl wantN wantN ?_ ?_
        · skip
          refine Ox.C true [] Try.func8 (laws_toTable.ac _ _ _ _ _ _ _ hc5) .nil ?_
          refine Dt.B (g1 := false) (g2 := false) rfl rfl wantN wantN ?_ ?_
          · skip
            refine Ox.C true [] Try.func8 (laws_toTable.ac _ _ _ _ _ _ _ hc6) .nil ?_
            refine Dt.B (g1 := false) (g2 := false) rfl rfl wantN wantN ?_ ?_
            · skip
              refine Ox.C true [] Try.func7 (spec_MeetTables.ac _ _ _ _ _ _ _ _ _ _ _ hc7) .nil ?_
              refine Dt.Y rfl wantN Y.mv ?_
              refine Dt.Y rfl wantN Y.ex ?_
              refine Dt.Y rfl wantN Y.ex ?_
              refine Dt.O (g' := false) rfl wantN ?_
              refine Ox.M (M.al Y26) ?_
              refine Dt.L rfl wantN ?_
              refine Op.S (S.stb Y26) ?_
              refine Du.Y rfl wantN Y.asg ?_
              refine Du.nil ?_
              exact ⟨rfl, .inl ⟨rfl, rfl⟩⟩
            · skip
              refine Ox.M (M.al Y26) ?_
              refine Dt.O (g' := false) rfl wantN ?_
              refine Ox.C true [] Try.func7 (spec_MeetTables.ac _ _ _ _ _ _ _ _ _ _ _ hc7) .nil ?_
              refine Dt.Y rfl wantN Y.mv ?_
              refine Dt.Y rfl wantN Y.ex ?_
              refine Dt.Y rfl wantN Y.ex ?_
              refine Dt.L rfl wantN ?_
              refine Op.S (S.stb Y26) ?_
              refine Du.Y rfl wantN Y.asg ?_
              refine Du.nil ?_
              exact ⟨rfl, .inr (IsPart.at [] [0, 1, 2, 3, 5, 4] base0 (H.c (H.c (H.c (H.c (H.c (H.c .nil)))))) (by repeat' first | exact .nil | refine E.c ?_))⟩
          · skip
            refine Ox.M (M.al Y26) ?_
            refine Dt.O (g' := false) rfl wantN ?_
            refine Ox.C true [] Try.func8 (laws_toTable.ac _ _ _ _ _ _ _ hc6) .nil ?_
            refine Dt.O (g' := false) rfl wantN ?_
            refine Ox.C true [] Try.func7 (spec_MeetTables.ac _ _ _ _ _ _ _ _ _ _ _ hc7) .nil ?_
            refine Dt.Y rfl wantN Y.mv ?_
            refine Dt.Y rfl wantN Y.ex ?_
            refine Dt.Y rfl wantN Y.ex ?_
            refine Dt.L rfl wantN ?_
            refine Op.S (S.stb Y26) ?_
            refine Du.Y rfl wantN Y.asg ?_
            refine Du.nil ?_
            exact ⟨rfl, .inr (IsPart.at [] [0, 1, 2, 4, 5, 3] base0 (H.c (H.c (H.c (H.c (H.c (H.c .nil)))))) (by repeat' first | exact .nil | refine E.c ?_))⟩
        · skip
          refine Ox.M (M.al Y26) ?_
          refine Dt.O (g' := false) rfl wantN ?_
          refine Ox.C true [] Try.func8 (laws_toTable.ac _ _ _ _ _ _ _ hc5) .nil ?_
          refine Dt.O (g' := false) rfl wantN ?_
          refine Ox.C true [] Try.func8 (laws_toTable.ac _ _ _ _ _ _ _ hc6) .nil ?_
          refine Dt.O (g' := false) rfl wantN ?_
          refine Ox.C true [] Try.func7 (spec_MeetTables.ac _ _ _ _ _ _ _ _ _ _ _ hc7) .nil ?_
          refine Dt.Y rfl wantN Y.mv ?_
          refine Dt.Y rfl wantN Y.ex ?_
          refine Dt.Y rfl wantN Y.ex ?_
          refine Dt.L rfl wantN ?_
          refine Op.S (S.stb Y26) ?_
          refine Du.Y rfl wantN Y.asg ?_
          refine Du.nil ?_
          exact ⟨rfl, .inr (IsPart.at [] [0, 1, 3, 4, 5, 2] base0 (H.c (H.c (H.c (H.c (H.c (H.c .nil)))))) (by repeat' first | exact .nil | refine E.c ?_))⟩
      · skip
        refine AWp.seq ?_
        refine W.kp [0, 1, 2, 3, 4, 5, 6, 7, 21, 26] ?_
        refine AWp.region ?_
        refine L.S (S.ldN Try.underlying24 Y24) ?_
        repeat (first | (rw [Option.ite_none_right_eq_some] at h; obtain ⟨_, h⟩ := h) | (rw [Option.ite_none_left_eq_some] at h; obtain ⟨_, h⟩ := h) | (simp only [Option.bind_some] at h))
        obtain ⟨⟨t200, t201, t202⟩, hc8, h⟩ := Option.bind_eq_some_iff.1 h
        dsimp only at h
        repeat (first | (rw [Option.ite_none_right_eq_some] at h; obtain ⟨_, h⟩ := h) | (rw [Option.ite_none_left_eq_some] at h; obtain ⟨_, h⟩ := h) | (simp only [Option.bind_some] at h))
        refine L.C (C.callE (l := true) [] Try.func8 (laws_toTable.ac _ _ _ _ _ _ _ hc8) .nil ?_)
        refine L.M (M.al Y26) ?_
        refine L.S (S.stb Y26) ?_
        refine AList.nil ?_
        refine AWp.seq ?_
        refine AWp.region ?_
        refine L.S (S.ldN Try.underlying24 Y24) ?_
        repeat (first | (rw [Option.ite_none_right_eq_some] at h; obtain ⟨_, h⟩ := h) | (rw [Option.ite_none_left_eq_some] at h; obtain ⟨_, h⟩ := h) | (simp only [Option.bind_some] at h))
        obtain ⟨⟨t206, t207, t208⟩, hc9, h⟩ := Option.bind_eq_some_iff.1 h
        dsimp only at h
        repeat (first | (rw [Option.ite_none_right_eq_some] at h; obtain ⟨_, h⟩ := h) | (rw [Option.ite_none_left_eq_some] at h; obtain ⟨_, h⟩ := h) | (simp only [Option.bind_some] at h))
        refine L.C (C.callE (l := true) [] Try.func8 (laws_toTable.ac _ _ _ _ _ _ _ hc9) .nil ?_)
        refine L.M (M.al Y26) ?_
        refine L.S (S.stb Y26) ?_
        refine AList.nil ?_
        refine AWp.seq ?_
        refine W.kp [0, 1, 2, 3, 4, 5, 6, 7, 8, 9, 21, 26] ?_
        refine AWp.region ?_
        refine L.S (S.ldN Try.underlying26 Y26) ?_
        refine L.S (S.ldN Try.underlying26 Y26) ?_
        repeat (first | (rw [Option.ite_none_right_eq_some] at h; obtain ⟨_, h⟩ := h) | (rw [Option.ite_none_left_eq_some] at h; obtain ⟨_, h⟩ := h) | (simp only [Option.bind_some] at h))
        obtain ⟨⟨t212, t213, t214, t217⟩, hc10, h⟩ := Option.bind_eq_some_iff.1 h
        dsimp only at h
        repeat (first | (rw [Option.ite_none_right_eq_some] at h; obtain ⟨_, h⟩ := h) | (rw [Option.ite_none_left_eq_some] at h; obtain ⟨_, h⟩ := h) | (simp only [Option.bind_some] at h))
        refine L.C (C.callE (l := true) [] Try.func9 (impl_MeetTables.ac _ _ _ _ _ _ _ _ _ _ _ hc10) .nil ?_)
        refine L.Y Y.mv ?_
        refine L.Y Y.ex ?_
        refine L.Y Y.ex ?_
        refine L.M (M.al Y26) ?_
        refine L.S (S.stb Y26) ?_
        refine L.Y Y.asg ?_
        refine AList.nil ?_
        refine AWp.seq ?_
        refine AWp.seq ?_
        refine W.kp [0, 1, 2, 3, 4, 5, 6, 7, 8, 9, 10, 11, 21, 26] ?_
        refine AWp.region ?_
        refine L.S (S.ldN Try.underlying26 Y26) ?_
        refine L.S (S.ldN Try.underlying26 Y26) ?_
        repeat (first | (rw [Option.ite_none_right_eq_some] at h; obtain ⟨_, h⟩ := h) | (rw [Option.ite_none_left_eq_some] at h; obtain ⟨_, h⟩ := h) | (simp only [Option.bind_some] at h))
        obtain ⟨t219, hc11, h⟩ := Option.bind_eq_some_iff.1 h
        repeat (first | (rw [Option.ite_none_right_eq_some] at h; obtain ⟨_, h⟩ := h) | (rw [Option.ite_none_left_eq_some] at h; obtain ⟨_, h⟩ := h) | (simp only [Option.bind_some] at h))
        refine L.C (C.callE (l := true) [] Try.func10 (laws_eqTable.ac _ _ _ _ _ _ _ _ hc11) .nil ?_)
        refine L.Y Y.nt ?_
        refine L.Y Y.mv ?_
        refine L.Gc (fun hb => ?_) (fun hb => ?_)
        · have hb12 := hb
          try simp only [decide_eq_true_eq, decide_eq_false_iff_not, Bool.not_eq_true', Bool.not_eq_false', Bool.not_eq_true, Bool.not_eq_false, beq_iff_eq, bne_iff_ne, beq_eq_false_iff_ne, bne_eq_false_iff_eq, ne_eq, Decidable.not_not] at hb
          first | rw [if_pos hb12] at h | rw [if_neg (Bool.eq_false_iff.1 hb12)] at h | rw [if_pos hb] at h | rw [if_neg hb] at h | (simp only [hb, Bool.not_false, Bool.not_true, Bool.false_eq_true, if_true, if_false, reduceIte] at h)
          repeat (first | (rw [Option.ite_none_right_eq_some] at h; obtain ⟨_, h⟩ := h) | (rw [Option.ite_none_left_eq_some] at h; obtain ⟨_, h⟩ := h) | (simp only [Option.bind_some] at h))
          refine L.Gn hb12 ?_
          refine L.Gn hb12 ?_
          refine L.Gn hb12 ?_
          refine L.Y (Y.pk (c := true) hb12) ?_
          refine AList.nil ?_
          rcases k with _ | k
          · exact absurd h (by simp [laws_FnExactMeetTables.j0])
          simp only [laws_FnExactMeetTables.j0] at h
          repeat (first | (rw [Option.ite_none_right_eq_some] at h; obtain ⟨_, h⟩ := h) | (rw [Option.ite_none_left_eq_some] at h; obtain ⟨_, h⟩ := h) | (simp only [Option.bind_some] at h))
          refine W.cond (fun hb => ?_) (fun hb => ?_)
          rotate_left
          · first | (cases hb; done) | contradiction | (simp_all; done) | (exfalso; (try simp only [decide_eq_true_eq, decide_eq_false_iff_not, Bool.not_eq_true', Bool.not_eq_false', Bool.not_eq_true, Bool.not_eq_false, beq_iff_eq, bne_iff_ne, beq_eq_false_iff_ne, bne_eq_false_iff_eq, ne_eq, Decidable.not_not] at hb); omega) | (exfalso; simp_all; omega)
          have hb13 := hb
          try (first | rw [if_pos hb13] at h | rw [if_neg (Bool.eq_false_iff.1 hb13)] at h | rw [if_pos hb] at h | rw [if_neg hb] at h | (simp only [hb, Bool.not_false, Bool.not_true, Bool.false_eq_true, if_true, if_false, reduceIte] at h))
          repeat (first | (rw [Option.ite_none_right_eq_some] at h; obtain ⟨_, h⟩ := h) | (rw [Option.ite_none_left_eq_some] at h; obtain ⟨_, h⟩ := h) | (simp only [Option.bind_some] at h))
          refine AWp.seq ?_
          refine W.kp [0, 1, 2, 3, 4, 5, 6, 7, 8, 9, 10, 11, 21, 26, 53] ?_
          refine AWp.region ?_
          refine L.Y Y.asg ?_
          refine AList.nil ?_
          repeat (first | (rw [Option.ite_none_right_eq_some] at h; obtain ⟨_, h⟩ := h) | (rw [Option.ite_none_left_eq_some] at h; obtain ⟨_, h⟩ := h) | (simp only [Option.bind_some] at h))
          refine AWp.ret ?_
          first | (exfalso; cases h; done) | exact ⟨.inr rfl, [(4, _)], _, ⟨rfl, rfl⟩, IsPart.at [] [] base0 .nil (E.c .nil)⟩
        · have hb12 := hb
          try simp only [decide_eq_true_eq, decide_eq_false_iff_not, Bool.not_eq_true', Bool.not_eq_false', Bool.not_eq_true, Bool.not_eq_false, beq_iff_eq, bne_iff_ne, beq_eq_false_iff_ne, bne_eq_false_iff_eq, ne_eq, Decidable.not_not] at hb
          first | rw [if_pos hb12] at h | rw [if_neg (Bool.eq_false_iff.1 hb12)] at h | rw [if_pos hb] at h | rw [if_neg hb] at h | (simp only [hb, Bool.not_false, Bool.not_true, Bool.false_eq_true, if_true, if_false, reduceIte] at h)
          repeat (first | (rw [Option.ite_none_right_eq_some] at h; obtain ⟨_, h⟩ := h) | (rw [Option.ite_none_left_eq_some] at h; obtain ⟨_, h⟩ := h) | (simp only [Option.bind_some] at h))
          refine L.Gy hb12 Y.mv ?_
          refine L.Gy hb12 Y.mv ?_
          refine L.Gy hb12 (Y.bb Try.underlying4) ?_
          refine L.Y (Y.pk (c := false) hb12) ?_
          refine AList.nil ?_
          rcases k with _ | k
          · exact absurd h (by simp [laws_FnExactMeetTables.j0])
          simp only [laws_FnExactMeetTables.j0] at h
          repeat (first | (rw [Option.ite_none_right_eq_some] at h; obtain ⟨_, h⟩ := h) | (rw [Option.ite_none_left_eq_some] at h; obtain ⟨_, h⟩ := h) | (simp only [Option.bind_some] at h))
          refine W.cond (fun hb => ?_) (fun hb => ?_)
          · have hb14 := hb
            try simp only [decide_eq_true_eq, decide_eq_false_iff_not, Bool.not_eq_true', Bool.not_eq_false', Bool.not_eq_true, Bool.not_eq_false, beq_iff_eq, bne_iff_ne, beq_eq_false_iff_ne, bne_eq_false_iff_eq, ne_eq, Decidable.not_not] at hb
            first | rw [if_pos hb14] at h | rw [if_neg (Bool.eq_false_iff.1 hb14)] at h | rw [if_pos hb] at h | rw [if_neg hb] at h | (simp only [hb, Bool.not_false, Bool.not_true, Bool.false_eq_true, if_true, if_false, reduceIte] at h)
            repeat (first | (rw [Option.ite_none_right_eq_some] at h; obtain ⟨_, h⟩ := h) | (rw [Option.ite_none_left_eq_some] at h; obtain ⟨_, h⟩ := h) | (simp only [Option.bind_some] at h))
            refine AWp.seq ?_
            refine W.kp [0, 1, 2, 3, 4, 5, 6, 7, 8, 9, 10, 11, 21, 26, 53] ?_
            refine AWp.region ?_
            refine L.Y Y.asg ?_
            refine AList.nil ?_
            repeat (first | (rw [Option.ite_none_right_eq_some] at h; obtain ⟨_, h⟩ := h) | (rw [Option.ite_none_left_eq_some] at h; obtain ⟨_, h⟩ := h) | (simp only [Option.bind_some] at h))
            refine AWp.ret ?_
            first | (exfalso; cases h; done) | exact ⟨.inr rfl, [(4, _)], _, ⟨rfl, rfl⟩, IsPart.at [] [] base0 .nil (E.c .nil)⟩
          · have hb14 := hb
            try simp only [decide_eq_true_eq, decide_eq_false_iff_not, Bool.not_eq_true', Bool.not_eq_false', Bool.not_eq_true, Bool.not_eq_false, beq_iff_eq, bne_iff_ne, beq_eq_false_iff_ne, bne_eq_false_iff_eq, ne_eq, Decidable.not_not] at hb
            first | rw [if_pos hb14] at h | rw [if_neg (Bool.eq_false_iff.1 hb14)] at h | rw [if_pos hb] at h | rw [if_neg hb] at h | (simp only [hb, Bool.not_false, Bool.not_true, Bool.false_eq_true, if_true, if_false, reduceIte] at h)
            repeat (first | (rw [Option.ite_none_right_eq_some] at h; obtain ⟨_, h⟩ := h) | (rw [Option.ite_none_left_eq_some] at h; obtain ⟨_, h⟩ := h) | (simp only [Option.bind_some] at h))
            refine AWp.skip ?_
            refine AWp.seq ?_
            refine AWp.seq ?_
            refine W.kp [0, 1, 2, 3, 4, 5, 6, 7, 8, 9, 10, 11, 21, 26, 53] ?_
            refine Dt.reg [] [] (.t 0 (.t 1 (.one 2 (.one 3 (.y 4 .done))))) HM ?_
            refine Dt.T rfl wantN (D.ldN Try.underlying26 Y26) ?_
            refine Dt.T rfl wantN (D.ldN Try.underlying24 Y24) ?_
            refine Dt.O (g' := false) rfl wantN ?_
            repeat (first | (rw [Option.ite_none_right_eq_some] at h; obtain ⟨_, h⟩ := h) | (rw [Option.ite_none_left_eq_some] at h; obtain ⟨_, h⟩ := h) | (simp only [Option.bind_some] at h))
            obtain ⟨⟨t220, t221, t222⟩, hc15, h⟩ := Option.bind_eq_some_iff.1 h
            dsimp only at h
            repeat (first | (rw [Option.ite_none_right_eq_some] at h; obtain ⟨_, h⟩ := h) | (rw [Option.ite_none_left_eq_some] at h; obtain ⟨_, h⟩ := h) | (simp only [Option.bind_some] at h))
            refine Ox.C true [] Try.func8 (laws_toTable.ac _ _ _ _ _ _ _ hc15) .nil ?_
            refine Dt.O (g' := false) rfl wantN ?_
            repeat (first | (rw [Option.ite_none_right_eq_some] at h; obtain ⟨_, h⟩ := h) | (rw [Option.ite_none_left_eq_some] at h; obtain ⟨_, h⟩ := h) | (simp only [Option.bind_some] at h))
            obtain ⟨t225, hc16, h⟩ := Option.bind_eq_some_iff.1 h
            repeat (first | (rw [Option.ite_none_right_eq_some] at h; obtain ⟨_, h⟩ := h) | (rw [Option.ite_none_left_eq_some] at h; obtain ⟨_, h⟩ := h) | (simp only [Option.bind_some] at h))
            refine Ox.C true [] Try.func10 (laws_eqTable.ac _ _ _ _ _ _ _ _ hc16) .nil ?_
            refine Dt.Y rfl wantN Y.nt ?_
            refine Dt.nil ?_
            refine W.cond (fun hb => ?_) (fun hb => ?_)
            · have hb17 := hb
              try simp only [decide_eq_true_eq, decide_eq_false_iff_not, Bool.not_eq_true', Bool.not_eq_false', Bool.not_eq_true, Bool.not_eq_false, beq_iff_eq, bne_iff_ne, beq_eq_false_iff_ne, bne_eq_false_iff_eq, ne_eq, Decidable.not_not] at hb
              first | rw [if_pos hb17] at h | rw [if_neg (Bool.eq_false_iff.1 hb17)] at h | rw [if_pos hb] at h | rw [if_neg hb] at h | (simp only [hb, Bool.not_false, Bool.not_true, Bool.false_eq_true, if_true, if_false, reduceIte] at h)
              repeat (first | (rw [Option.ite_none_right_eq_some] at h; obtain ⟨_, h⟩ := h) | (rw [Option.ite_none_left_eq_some] at h; obtain ⟨_, h⟩ := h) | (simp only [Option.bind_some] at h))
              refine AWp.seq ?_
              refine W.kp [0, 1, 2, 3, 4, 5, 6, 7, 8, 9, 10, 11, 21, 26, 53, 58] ?_
              refine AWp.region ?_
              refine L.Y Y.asg ?_
              refine AList.nil ?_
              repeat (first | (rw [Option.ite_none_right_eq_some] at h; obtain ⟨_, h⟩ := h) | (rw [Option.ite_none_left_eq_some] at h; obtain ⟨_, h⟩ := h) | (simp only [Option.bind_some] at h))
              refine AWp.ret ?_
              first | (exfalso; cases h; done) | exact ⟨.inr rfl, [(4, _)], _, ⟨rfl, rfl⟩, IsPart.at [] [] base0 .nil (E.c .nil)⟩
            · have hb17 := hb
              try simp only [decide_eq_true_eq, decide_eq_false_iff_not, Bool.not_eq_true', Bool.not_eq_false', Bool.not_eq_true, Bool.not_eq_false, beq_iff_eq, bne_iff_ne, beq_eq_false_iff_ne, bne_eq_false_iff_eq, ne_eq, Decidable.not_not] at hb
              first | rw [if_pos hb17] at h | rw [if_neg (Bool.eq_false_iff.1 hb17)] at h | rw [if_pos hb] at h | rw [if_neg hb] at h | (simp only [hb, Bool.not_false, Bool.not_true, Bool.false_eq_true, if_true, if_false, reduceIte] at h)
              repeat (first | (rw [Option.ite_none_right_eq_some] at h; obtain ⟨_, h⟩ := h) | (rw [Option.ite_none_left_eq_some] at h; obtain ⟨_, h⟩ := h) | (simp only [Option.bind_some] at h))
              refine AWp.skip ?_
              refine AWp.seq ?_
              refine AWp.seq ?_
              refine W.kp [0, 1, 2, 3, 4, 5, 6, 7, 8, 9, 10, 11, 21, 26, 53, 58] ?_
              refine Dt.reg [] [] (.t 0 (.t 1 (.one 2 (.one 3 (.y 4 .done))))) HM ?_
              refine Dt.T rfl wantN (D.ldN Try.underlying26 Y26) ?_
              refine Dt.T rfl wantN (D.ldN Try.underlying24 Y24) ?_
              refine Dt.O (g' := false) rfl wantN ?_
              repeat (first | (rw [Option.ite_none_right_eq_some] at h; obtain ⟨_, h⟩ := h) | (rw [Option.ite_none_left_eq_some] at h; obtain ⟨_, h⟩ := h) | (simp only [Option.bind_some] at h))
              obtain ⟨⟨t226, t227, t228⟩, hc18, h⟩ := Option.bind_eq_some_iff.1 h
              dsimp only at h
              repeat (first | (rw [Option.ite_none_right_eq_some] at h; obtain ⟨_, h⟩ := h) | (rw [Option.ite_none_left_eq_some] at h; obtain ⟨_, h⟩ := h) | (simp only [Option.bind_some] at h))
              refine Ox.C true [] Try.func8 (laws_toTable.ac _ _ _ _ _ _ _ hc18) .nil ?_
              refine Dt.O (g' := false) rfl wantN ?_
              repeat (first | (rw [Option.ite_none_right_eq_some] at h; obtain ⟨_, h⟩ := h) | (rw [Option.ite_none_left_eq_some] at h; obtain ⟨_, h⟩ := h) | (simp only [Option.bind_some] at h))
              obtain ⟨t231, hc19, h⟩ := Option.bind_eq_some_iff.1 h
              repeat (first | (rw [Option.ite_none_right_eq_some] at h; obtain ⟨_, h⟩ := h) | (rw [Option.ite_none_left_eq_some] at h; obtain ⟨_, h⟩ := h) | (simp only [Option.bind_some] at h))
              refine Ox.C true [] Try.func10 (laws_eqTable.ac _ _ _ _ _ _ _ _ hc19) .nil ?_
              refine Dt.Y rfl wantN Y.nt ?_
              refine Dt.nil ?_
              refine W.cond (fun hb => ?_) (fun hb => ?_)
              · have hb20 := hb
                try simp only [decide_eq_true_eq, decide_eq_false_iff_not, Bool.not_eq_true', Bool.not_eq_false', Bool.not_eq_true, Bool.not_eq_false, beq_iff_eq, bne_iff_ne, beq_eq_false_iff_ne, bne_eq_false_iff_eq, ne_eq, Decidable.not_not] at hb
                first | rw [if_pos hb20] at h | rw [if_neg (Bool.eq_false_iff.1 hb20)] at h | rw [if_pos hb] at h | rw [if_neg hb] at h | (simp only [hb, Bool.not_false, Bool.not_true, Bool.false_eq_true, if_true, if_false, reduceIte] at h)
                repeat (first | (rw [Option.ite_none_right_eq_some] at h; obtain ⟨_, h⟩ := h) | (rw [Option.ite_none_left_eq_some] at h; obtain ⟨_, h⟩ := h) | (simp only [Option.bind_some] at h))
                refine AWp.seq ?_
                refine W.kp [0, 1, 2, 3, 4, 5, 6, 7, 8, 9, 10, 11, 21, 26, 53, 58, 63] ?_
                refine AWp.region ?_
                refine L.Y Y.asg ?_
                refine AList.nil ?_
                repeat (first | (rw [Option.ite_none_right_eq_some] at h; obtain ⟨_, h⟩ := h) | (rw [Option.ite_none_left_eq_some] at h; obtain ⟨_, h⟩ := h) | (simp only [Option.bind_some] at h))
                refine AWp.ret ?_
                first | (exfalso; cases h; done) | exact ⟨.inr rfl, [(4, _)], _, ⟨rfl, rfl⟩, IsPart.at [] [] base0 .nil (E.c .nil)⟩
              · have hb20 := hb
                try simp only [decide_eq_true_eq, decide_eq_false_iff_not, Bool.not_eq_true', Bool.not_eq_false', Bool.not_eq_true, Bool.not_eq_false, beq_iff_eq, bne_iff_ne, beq_eq_false_iff_ne, bne_eq_false_iff_eq, ne_eq, Decidable.not_not] at hb
                first | rw [if_pos hb20] at h | rw [if_neg (Bool.eq_false_iff.1 hb20)] at h | rw [if_pos hb] at h | rw [if_neg hb] at h | (simp only [hb, Bool.not_false, Bool.not_true, Bool.false_eq_true, if_true, if_false, reduceIte] at h)
                repeat (first | (rw [Option.ite_none_right_eq_some] at h; obtain ⟨_, h⟩ := h) | (rw [Option.ite_none_left_eq_some] at h; obtain ⟨_, h⟩ := h) | (simp only [Option.bind_some] at h))
                refine AWp.skip ?_
                refine AWp.seq ?_
                refine W.kp [0, 1, 2, 3, 4, 5, 6, 7, 8, 9, 10, 11, 21, 26, 53, 58, 63] ?_
                refine AWp.region ?_
                refine L.Y Y.asg ?_
                refine AList.nil ?_
                refine AWp.seq ?_
                refine AWp.region ?_
                refine L.S (S.ldN Try.underlying26 Y26) ?_
                refine L.Y Y.mv ?_
                repeat (first | (rw [Option.ite_none_right_eq_some] at h; obtain ⟨_, h⟩ := h) | (rw [Option.ite_none_left_eq_some] at h; obtain ⟨_, h⟩ := h) | (simp only [Option.bind_some] at h))
                obtain ⟨⟨t232, t233⟩, hc21, h⟩ := Option.bind_eq_some_iff.1 h
                dsimp only at h
                have hl22 := laws_markTable.len _ _ _ _ _ _ _ hc21
                repeat (first | (rw [Option.ite_none_right_eq_some] at h; obtain ⟨_, h⟩ := h) | (rw [Option.ite_none_left_eq_some] at h; obtain ⟨_, h⟩ := h) | (simp only [Option.bind_some] at h))
                refine L.C (C.callE (l := true) [6] Try.func11 (laws_markTable.ac _ _ _ _ _ _ _ hc21) (H.c .nil) ?_)
                refine L.Y Y.asg ?_
                refine AList.nil ?_
                refine AWp.seq ?_
                refine AWp.region ?_
                refine L.S (S.ldN Try.underlying26 Y26) ?_
                refine L.Y Y.mv ?_
                repeat (first | (rw [Option.ite_none_right_eq_some] at h; obtain ⟨_, h⟩ := h) | (rw [Option.ite_none_left_eq_some] at h; obtain ⟨_, h⟩ := h) | (simp only [Option.bind_some] at h))
                obtain ⟨⟨t234, t235⟩, hc23, h⟩ := Option.bind_eq_some_iff.1 h
                dsimp only at h
                have hl24 := laws_markTable.len _ _ _ _ _ _ _ hc23
                repeat (first | (rw [Option.ite_none_right_eq_some] at h; obtain ⟨_, h⟩ := h) | (rw [Option.ite_none_left_eq_some] at h; obtain ⟨_, h⟩ := h) | (simp only [Option.bind_some] at h))
                refine L.C (C.callE (l := true) [8] Try.func11 (laws_markTable.ac _ _ _ _ _ _ _ hc23) (H.c .nil) ?_)
                refine L.Y Y.asg ?_
                refine AList.nil ?_
                refine AWp.seq ?_
                refine AWp.seq ?_
                refine W.kp [0, 1, 2, 3, 4, 5, 6, 7, 8, 9, 10, 11, 12, 21, 26, 53, 58, 63] ?_
                refine AWp.region ?_
                refine L.Y Y.mv ?_
                refine L.Y Y.bin ?_
                refine L.Y Y.mv ?_
                refine L.Gc (fun hb => ?_) (fun hb => ?_)
                · have hb25 := hb
                  try simp only [decide_eq_true_eq, decide_eq_false_iff_not, Bool.not_eq_true', Bool.not_eq_false', Bool.not_eq_true, Bool.not_eq_false, beq_iff_eq, bne_iff_ne, beq_eq_false_iff_ne, bne_eq_false_iff_eq, ne_eq, Decidable.not_not] at hb
                  first | rw [if_pos hb25] at h | rw [if_neg (Bool.eq_false_iff.1 hb25)] at h | rw [if_pos hb] at h | rw [if_neg hb] at h | (simp only [hb, Bool.not_false, Bool.not_true, Bool.false_eq_true, if_true, if_false, reduceIte] at h)
                  repeat (first | (rw [Option.ite_none_right_eq_some] at h; obtain ⟨_, h⟩ := h) | (rw [Option.ite_none_left_eq_some] at h; obtain ⟨_, h⟩ := h) | (simp only [Option.bind_some] at h))
                  refine L.Gn hb25 ?_
                  refine L.Gn hb25 ?_
                  refine L.Gn hb25 ?_
                  refine L.Gn hb25 ?_
                  refine L.Y (Y.pk (c := true) hb25) ?_
                  refine L.Y Y.mv ?_
                  refine L.Gc (fun hb => ?_) (fun hb => ?_)
                  rotate_left
                  · first | (cases hb; done) | contradiction | (simp_all; done) | (exfalso; (try simp only [decide_eq_true_eq, decide_eq_false_iff_not, Bool.not_eq_true', Bool.not_eq_false', Bool.not_eq_true, Bool.not_eq_false, beq_iff_eq, bne_iff_ne, beq_eq_false_iff_ne, bne_eq_false_iff_eq, ne_eq, Decidable.not_not] at hb); omega) | (exfalso; simp_all; omega)
                  have hb26 := hb
                  refine L.Gn hb26 ?_
                  refine L.Gn hb26 ?_
                  refine L.Gn hb26 ?_
                  refine L.Y (Y.pk (c := true) hb26) ?_
                  refine AList.nil ?_
                  rcases k with _ | k
                  · exact absurd h (by simp [laws_FnExactMeetTables.j1])
                  simp only [laws_FnExactMeetTables.j1] at h
                  repeat (first | (rw [Option.ite_none_right_eq_some] at h; obtain ⟨_, h⟩ := h) | (rw [Option.ite_none_left_eq_some] at h; obtain ⟨_, h⟩ := h) | (simp only [Option.bind_some] at h))
                  refine W.cond (fun hb => ?_) (fun hb => ?_)
                  rotate_left
                  · first | (cases hb; done) | contradiction | (simp_all; done) | (exfalso; (try simp only [decide_eq_true_eq, decide_eq_false_iff_not, Bool.not_eq_true', Bool.not_eq_false', Bool.not_eq_true, Bool.not_eq_false, beq_iff_eq, bne_iff_ne, beq_eq_false_iff_ne, bne_eq_false_iff_eq, ne_eq, Decidable.not_not] at hb); omega) | (exfalso; simp_all; omega)
                  have hb27 := hb
                  try (first | rw [if_pos hb27] at h | rw [if_neg (Bool.eq_false_iff.1 hb27)] at h | rw [if_pos hb] at h | rw [if_neg hb] at h | (simp only [hb, Bool.not_false, Bool.not_true, Bool.false_eq_true, if_true, if_false, reduceIte] at h))
                  repeat (first | (rw [Option.ite_none_right_eq_some] at h; obtain ⟨_, h⟩ := h) | (rw [Option.ite_none_left_eq_some] at h; obtain ⟨_, h⟩ := h) | (simp only [Option.bind_some] at h))
                  refine AWp.seq ?_
                  refine W.kp [0, 1, 2, 3, 4, 5, 6, 7, 8, 9, 10, 11, 12, 21, 26, 53, 58, 63, 82] ?_
                  refine AWp.region ?_
                  refine L.Y Y.asg ?_
                  refine AList.nil ?_
                  repeat (first | (rw [Option.ite_none_right_eq_some] at h; obtain ⟨_, h⟩ := h) | (rw [Option.ite_none_left_eq_some] at h; obtain ⟨_, h⟩ := h) | (simp only [Option.bind_some] at h))
                  refine AWp.ret ?_
                  first | (exfalso; cases h; done) | exact ⟨.inr rfl, [(4, _)], _, ⟨rfl, rfl⟩, IsPart.at [] [] base0 .nil (E.c .nil)⟩
                · have hb25 := hb
                  try simp only [decide_eq_true_eq, decide_eq_false_iff_not, Bool.not_eq_true', Bool.not_eq_false', Bool.not_eq_true, Bool.not_eq_false, beq_iff_eq, bne_iff_ne, beq_eq_false_iff_ne, bne_eq_false_iff_eq, ne_eq, Decidable.not_not] at hb
                  first | rw [if_pos hb25] at h | rw [if_neg (Bool.eq_false_iff.1 hb25)] at h | rw [if_pos hb] at h | rw [if_neg hb] at h | (simp only [hb, Bool.not_false, Bool.not_true, Bool.false_eq_true, if_true, if_false, reduceIte] at h)
                  repeat (first | (rw [Option.ite_none_right_eq_some] at h; obtain ⟨_, h⟩ := h) | (rw [Option.ite_none_left_eq_some] at h; obtain ⟨_, h⟩ := h) | (simp only [Option.bind_some] at h))
                  refine L.Gs hb25 (S.ldN Try.underlying26 Y26) ?_
                  refine L.Gs hb25 (S.ldN Try.underlying26 Y26) ?_
                  repeat (first | (rw [Option.ite_none_right_eq_some] at h; obtain ⟨_, h⟩ := h) | (rw [Option.ite_none_left_eq_some] at h; obtain ⟨_, h⟩ := h) | (simp only [Option.bind_some] at h))
                  obtain ⟨t236, hc28, h⟩ := Option.bind_eq_some_iff.1 h
                  repeat (first | (rw [Option.ite_none_right_eq_some] at h; obtain ⟨_, h⟩ := h) | (rw [Option.ite_none_left_eq_some] at h; obtain ⟨_, h⟩ := h) | (simp only [Option.bind_some] at h))
                  refine L.GC hb25 (C.callE (l := true) [] Try.func10 (laws_eqTable.ac _ _ _ _ _ _ _ _ hc28) .nil ?_)
                  refine L.Gy hb25 Y.nt ?_
                  refine L.Y (Y.pk (c := false) hb25) ?_
                  refine L.Y Y.mv ?_
                  refine L.Gc (fun hb => ?_) (fun hb => ?_)
                  · have hb29 := hb
                    try simp only [decide_eq_true_eq, decide_eq_false_iff_not, Bool.not_eq_true', Bool.not_eq_false', Bool.not_eq_true, Bool.not_eq_false, beq_iff_eq, bne_iff_ne, beq_eq_false_iff_ne, bne_eq_false_iff_eq, ne_eq, Decidable.not_not] at hb
                    first | rw [if_pos hb29] at h | rw [if_neg (Bool.eq_false_iff.1 hb29)] at h | rw [if_pos hb] at h | rw [if_neg hb] at h | (simp only [hb, Bool.not_false, Bool.not_true, Bool.false_eq_true, if_true, if_false, reduceIte] at h)
                    repeat (first | (rw [Option.ite_none_right_eq_some] at h; obtain ⟨_, h⟩ := h) | (rw [Option.ite_none_left_eq_some] at h; obtain ⟨_, h⟩ := h) | (simp only [Option.bind_some] at h))
                    refine L.Gn hb29 ?_
                    refine L.Gn hb29 ?_
                    refine L.Gn hb29 ?_
                    refine L.Y (Y.pk (c := true) hb29) ?_
                    refine AList.nil ?_
                    rcases k with _ | k
                    · exact absurd h (by simp [laws_FnExactMeetTables.j1])
                    simp only [laws_FnExactMeetTables.j1] at h
                    repeat (first | (rw [Option.ite_none_right_eq_some] at h; obtain ⟨_, h⟩ := h) | (rw [Option.ite_none_left_eq_some] at h; obtain ⟨_, h⟩ := h) | (simp only [Option.bind_some] at h))
                    refine W.cond (fun hb => ?_) (fun hb => ?_)
                    rotate_left
                    · first | (cases hb; done) | contradiction | (simp_all; done) | (exfalso; (try simp only [decide_eq_true_eq, decide_eq_false_iff_not, Bool.not_eq_true', Bool.not_eq_false', Bool.not_eq_true, Bool.not_eq_false, beq_iff_eq, bne_iff_ne, beq_eq_false_iff_ne, bne_eq_false_iff_eq, ne_eq, Decidable.not_not] at hb); omega) | (exfalso; simp_all; omega)
                    have hb30 := hb
                    try (first | rw [if_pos hb30] at h | rw [if_neg (Bool.eq_false_iff.1 hb30)] at h | rw [if_pos hb] at h | rw [if_neg hb] at h | (simp only [hb, Bool.not_false, Bool.not_true, Bool.false_eq_true, if_true, if_false, reduceIte] at h))
                    repeat (first | (rw [Option.ite_none_right_eq_some] at h; obtain ⟨_, h⟩ := h) | (rw [Option.ite_none_left_eq_some] at h; obtain ⟨_, h⟩ := h) | (simp only [Option.bind_some] at h))
                    refine AWp.seq ?_
                    refine W.kp [0, 1, 2, 3, 4, 5, 6, 7, 8, 9, 10, 11, 12, 21, 26, 53, 58, 63, 82] ?_
                    refine AWp.region ?_
                    refine L.Y Y.asg ?_
                    refine AList.nil ?_
                    repeat (first | (rw [Option.ite_none_right_eq_some] at h; obtain ⟨_, h⟩ := h) | (rw [Option.ite_none_left_eq_some] at h; obtain ⟨_, h⟩ := h) | (simp only [Option.bind_some] at h))
                    refine AWp.ret ?_
                    first | (exfalso; cases h; done) | exact ⟨.inr rfl, [(4, _)], _, ⟨rfl, rfl⟩, IsPart.at [] [] base0 .nil (E.c .nil)⟩
                  · have hb29 := hb
                    try simp only [decide_eq_true_eq, decide_eq_false_iff_not, Bool.not_eq_true', Bool.not_eq_false', Bool.not_eq_true, Bool.not_eq_false, beq_iff_eq, bne_iff_ne, beq_eq_false_iff_ne, bne_eq_false_iff_eq, ne_eq, Decidable.not_not] at hb
                    first | rw [if_pos hb29] at h | rw [if_neg (Bool.eq_false_iff.1 hb29)] at h | rw [if_pos hb] at h | rw [if_neg hb] at h | (simp only [hb, Bool.not_false, Bool.not_true, Bool.false_eq_true, if_true, if_false, reduceIte] at h)
                    repeat (first | (rw [Option.ite_none_right_eq_some] at h; obtain ⟨_, h⟩ := h) | (rw [Option.ite_none_left_eq_some] at h; obtain ⟨_, h⟩ := h) | (simp only [Option.bind_some] at h))
                    refine L.Gy hb29 Y.mv ?_
                    refine L.Gy hb29 Y.mv ?_
                    refine L.Gy hb29 (Y.bb Try.underlying4) ?_
                    refine L.Y (Y.pk (c := false) hb29) ?_
                    refine AList.nil ?_
                    rcases k with _ | k
                    · exact absurd h (by simp [laws_FnExactMeetTables.j1])
                    simp only [laws_FnExactMeetTables.j1] at h
                    repeat (first | (rw [Option.ite_none_right_eq_some] at h; obtain ⟨_, h⟩ := h) | (rw [Option.ite_none_left_eq_some] at h; obtain ⟨_, h⟩ := h) | (simp only [Option.bind_some] at h))
                    refine W.cond (fun hb => ?_) (fun hb => ?_)
                    · have hb31 := hb
                      try simp only [decide_eq_true_eq, decide_eq_false_iff_not, Bool.not_eq_true', Bool.not_eq_false', Bool.not_eq_true, Bool.not_eq_false, beq_iff_eq, bne_iff_ne, beq_eq_false_iff_ne, bne_eq_false_iff_eq, ne_eq, Decidable.not_not] at hb
                      first | rw [if_pos hb31] at h | rw [if_neg (Bool.eq_false_iff.1 hb31)] at h | rw [if_pos hb] at h | rw [if_neg hb] at h | (simp only [hb, Bool.not_false, Bool.not_true, Bool.false_eq_true, if_true, if_false, reduceIte] at h)
                      repeat (first | (rw [Option.ite_none_right_eq_some] at h; obtain ⟨_, h⟩ := h) | (rw [Option.ite_none_left_eq_some] at h; obtain ⟨_, h⟩ := h) | (simp only [Option.bind_some] at h))
                      refine AWp.seq ?_
                      refine W.kp [0, 1, 2, 3, 4, 5, 6, 7, 8, 9, 10, 11, 12, 21, 26, 53, 58, 63, 82] ?_
                      refine AWp.region ?_
                      refine L.Y Y.asg ?_
                      refine AList.nil ?_
                      repeat (first | (rw [Option.ite_none_right_eq_some] at h; obtain ⟨_, h⟩ := h) | (rw [Option.ite_none_left_eq_some] at h; obtain ⟨_, h⟩ := h) | (simp only [Option.bind_some] at h))
                      refine AWp.ret ?_
                      first | (exfalso; cases h; done) | exact ⟨.inr rfl, [(4, _)], _, ⟨rfl, rfl⟩, IsPart.at [] [] base0 .nil (E.c .nil)⟩
                    · have hb31 := hb
                      try simp only [decide_eq_true_eq, decide_eq_false_iff_not, Bool.not_eq_true', Bool.not_eq_false', Bool.not_eq_true, Bool.not_eq_false, beq_iff_eq, bne_iff_ne, beq_eq_false_iff_ne, bne_eq_false_iff_eq, ne_eq, Decidable.not_not] at hb
                      first | rw [if_pos hb31] at h | rw [if_neg (Bool.eq_false_iff.1 hb31)] at h | rw [if_pos hb] at h | rw [if_neg hb] at h | (simp only [hb, Bool.not_false, Bool.not_true, Bool.false_eq_true, if_true, if_false, reduceIte] at h)
                      repeat (first | (rw [Option.ite_none_right_eq_some] at h; obtain ⟨_, h⟩ := h) | (rw [Option.ite_none_left_eq_some] at h; obtain ⟨_, h⟩ := h) | (simp only [Option.bind_some] at h))
                      refine AWp.skip ?_
                      refine AWp.seq ?_
                      refine W.kp [0, 1, 2, 3, 4, 5, 6, 7, 8, 9, 10, 11, 12, 21, 26, 53, 58, 63, 82] ?_
                      refine AWp.region ?_
                      refine L.Y Y.asg ?_
                      refine AList.nil ?_
                      refine AWp.seq ?_
                      refine AWp.region ?_
                      refine L.S (S.ldN Try.underlying26 Y26) ?_
                      refine L.Y Y.mv ?_
                      repeat (first | (rw [Option.ite_none_right_eq_some] at h; obtain ⟨_, h⟩ := h) | (rw [Option.ite_none_left_eq_some] at h; obtain ⟨_, h⟩ := h) | (simp only [Option.bind_some] at h))
                      obtain ⟨⟨t237, t238⟩, hc32, h⟩ := Option.bind_eq_some_iff.1 h
                      dsimp only at h
                      have hl33 := laws_markTable.len _ _ _ _ _ _ _ hc32
                      repeat (first | (rw [Option.ite_none_right_eq_some] at h; obtain ⟨_, h⟩ := h) | (rw [Option.ite_none_left_eq_some] at h; obtain ⟨_, h⟩ := h) | (simp only [Option.bind_some] at h))
                      refine L.C (C.callE (l := true) [10] Try.func11 (laws_markTable.ac _ _ _ _ _ _ _ hc32) (H.c .nil) ?_)
                      refine L.Y Y.asg ?_
                      refine AList.nil ?_
                      refine AWp.seq ?_
                      refine AWp.region ?_
                      refine L.Y Y.asg ?_
                      refine AList.nil ?_
                      refine AWp.seq ?_
                      refine AWp.region ?_
                      refine L.S (S.ldN Try.underlying26 Y26) ?_
                      refine L.Y Y.mv ?_
                      repeat (first | (rw [Option.ite_none_right_eq_some] at h; obtain ⟨_, h⟩ := h) | (rw [Option.ite_none_left_eq_some] at h; obtain ⟨_, h⟩ := h) | (simp only [Option.bind_some] at h))
                      obtain ⟨t239, hc34, h⟩ := Option.bind_eq_some_iff.1 h
                      repeat (first | (rw [Option.ite_none_right_eq_some] at h; obtain ⟨_, h⟩ := h) | (rw [Option.ite_none_left_eq_some] at h; obtain ⟨_, h⟩ := h) | (simp only [Option.bind_some] at h))
                      refine L.C (C.callE (l := true) [] Try.func12 (laws_heldTable.ac _ _ _ _ _ _ hc34) .nil ?_)
                      refine L.Y Y.asg ?_
                      refine AList.nil ?_
                      refine AWp.seq ?_
                      refine AWp.seq ?_
                      refine W.kp [0, 1, 2, 3, 4, 5, 6, 7, 8, 9, 10, 11, 12, 13, 14, 21, 26, 53, 58, 63, 82] ?_
                      refine AWp.region ?_
                      refine L.Y Y.mv ?_
                      refine L.Y Y.bin ?_
                      refine AList.nil ?_
                      refine W.cond (fun hb => ?_) (fun hb => ?_)
                      · have hb35 := hb
                        try simp only [decide_eq_true_eq, decide_eq_false_iff_not, Bool.not_eq_true', Bool.not_eq_false', Bool.not_eq_true, Bool.not_eq_false, beq_iff_eq, bne_iff_ne, beq_eq_false_iff_ne, bne_eq_false_iff_eq, ne_eq, Decidable.not_not] at hb
                        first | rw [if_pos hb35] at h | rw [if_neg (Bool.eq_false_iff.1 hb35)] at h | rw [if_pos hb] at h | rw [if_neg hb] at h | (simp only [hb, Bool.not_false, Bool.not_true, Bool.false_eq_true, if_true, if_false, reduceIte] at h)
                        repeat (first | (rw [Option.ite_none_right_eq_some] at h; obtain ⟨_, h⟩ := h) | (rw [Option.ite_none_left_eq_some] at h; obtain ⟨_, h⟩ := h) | (simp only [Option.bind_some] at h))
                        refine AWp.seq ?_
                        refine AWp.region ?_
                        refine L.Y Y.asg ?_
                        refine AList.nil ?_
                        repeat (first | (rw [Option.ite_none_right_eq_some] at h; obtain ⟨_, h⟩ := h) | (rw [Option.ite_none_left_eq_some] at h; obtain ⟨_, h⟩ := h) | (simp only [Option.bind_some] at h))
                        refine AWp.ret ?_
                        first | (exfalso; cases h; done) | exact ⟨.inr rfl, [(4, _)], _, ⟨rfl, rfl⟩, IsPart.at [] [] base0 .nil (E.c .nil)⟩
                      · have hb35 := hb
                        try simp only [decide_eq_true_eq, decide_eq_false_iff_not, Bool.not_eq_true', Bool.not_eq_false', Bool.not_eq_true, Bool.not_eq_false, beq_iff_eq, bne_iff_ne, beq_eq_false_iff_ne, bne_eq_false_iff_eq, ne_eq, Decidable.not_not] at hb
                        first | rw [if_pos hb35] at h | rw [if_neg (Bool.eq_false_iff.1 hb35)] at h | rw [if_pos hb] at h | rw [if_neg hb] at h | (simp only [hb, Bool.not_false, Bool.not_true, Bool.false_eq_true, if_true, if_false, reduceIte] at h)
                        repeat (first | (rw [Option.ite_none_right_eq_some] at h; obtain ⟨_, h⟩ := h) | (rw [Option.ite_none_left_eq_some] at h; obtain ⟨_, h⟩ := h) | (simp only [Option.bind_some] at h))
                        refine AWp.skip ?_
                        refine AWp.seq ?_
                        refine AWp.seq ?_
                        refine AWp.region ?_
                        refine L.Y Y.mv ?_
                        refine L.Y Y.mv ?_
                        refine L.Y Y.bin ?_
                        refine AList.nil ?_
                        refine W.cond (fun hb => ?_) (fun hb => ?_)
                        · have hb36 := hb
                          try simp only [decide_eq_true_eq, decide_eq_false_iff_not, Bool.not_eq_true', Bool.not_eq_false', Bool.not_eq_true, Bool.not_eq_false, beq_iff_eq, bne_iff_ne, beq_eq_false_iff_ne, bne_eq_false_iff_eq, ne_eq, Decidable.not_not] at hb
                          first | rw [if_pos hb36] at h | rw [if_neg (Bool.eq_false_iff.1 hb36)] at h | rw [if_pos hb] at h | rw [if_neg hb] at h | (simp only [hb, Bool.not_false, Bool.not_true, Bool.false_eq_true, if_true, if_false, reduceIte] at h)
                          repeat (first | (rw [Option.ite_none_right_eq_some] at h; obtain ⟨_, h⟩ := h) | (rw [Option.ite_none_left_eq_some] at h; obtain ⟨_, h⟩ := h) | (simp only [Option.bind_some] at h))
                          refine AWp.seq ?_
                          refine AWp.region ?_
                          refine L.Y Y.asg ?_
                          refine AList.nil ?_
                          repeat (first | (rw [Option.ite_none_right_eq_some] at h; obtain ⟨_, h⟩ := h) | (rw [Option.ite_none_left_eq_some] at h; obtain ⟨_, h⟩ := h) | (simp only [Option.bind_some] at h))
                          refine AWp.ret ?_
                          first | (exfalso; cases h; done) | exact ⟨.inr rfl, [(4, _)], _, ⟨rfl, rfl⟩, IsPart.at [] [] base0 .nil (E.c .nil)⟩
                        · have hb36 := hb
                          try simp only [decide_eq_true_eq, decide_eq_false_iff_not, Bool.not_eq_true', Bool.not_eq_false', Bool.not_eq_true, Bool.not_eq_false, beq_iff_eq, bne_iff_ne, beq_eq_false_iff_ne, bne_eq_false_iff_eq, ne_eq, Decidable.not_not] at hb
                          first | rw [if_pos hb36] at h | rw [if_neg (Bool.eq_false_iff.1 hb36)] at h | rw [if_pos hb] at h | rw [if_neg hb] at h | (simp only [hb, Bool.not_false, Bool.not_true, Bool.false_eq_true, if_true, if_false, reduceIte] at h)
                          repeat (first | (rw [Option.ite_none_right_eq_some] at h; obtain ⟨_, h⟩ := h) | (rw [Option.ite_none_left_eq_some] at h; obtain ⟨_, h⟩ := h) | (simp only [Option.bind_some] at h))
                          refine AWp.skip ?_
                          refine AWp.seq ?_
                          repeat (first | (rw [Option.ite_none_right_eq_some] at h; obtain ⟨_, h⟩ := h) | (rw [Option.ite_none_left_eq_some] at h; obtain ⟨_, h⟩ := h) | (simp only [Option.bind_some] at h))
                          obtain ⟨⟨t240, t241, t242⟩, hc37, h⟩ := Option.bind_eq_some_iff.1 h
                          dsimp only at h
                          repeat (first | (rw [Option.ite_none_right_eq_some] at h; obtain ⟨_, h⟩ := h) | (rw [Option.ite_none_left_eq_some] at h; obtain ⟨_, h⟩ := h) | (simp only [Option.bind_some] at h))
                          repeat (first | (rw [Option.ite_none_right_eq_some] at h; obtain ⟨_, h⟩ := h) | (rw [Option.ite_none_left_eq_some] at h; obtain ⟨_, h⟩ := h) | (simp only [Option.bind_some] at h))
                          obtain ⟨⟨t245, t246, t247⟩, hc38, h⟩ := Option.bind_eq_some_iff.1 h
                          dsimp only at h
                          repeat (first | (rw [Option.ite_none_right_eq_some] at h; obtain ⟨_, h⟩ := h) | (rw [Option.ite_none_left_eq_some] at h; obtain ⟨_, h⟩ := h) | (simp only [Option.bind_some] at h))
                          repeat (first | (rw [Option.ite_none_right_eq_some] at h; obtain ⟨_, h⟩ := h) | (rw [Option.ite_none_left_eq_some] at h; obtain ⟨_, h⟩ := h) | (simp only [Option.bind_some] at h))
                          obtain ⟨⟨t250, t251, t252, t255⟩, hc39, h⟩ := Option.bind_eq_some_iff.1 h
                          dsimp only at h
                          repeat (first | (rw [Option.ite_none_right_eq_some] at h; obtain ⟨_, h⟩ := h) | (rw [Option.ite_none_left_eq_some] at h; obtain ⟨_, h⟩ := h) | (simp only [Option.bind_some] at h))
                          apply AWp.joinX
                          · refine Dt.reg [] [9] (.t 0 (.t 2 (.two 1 (.two 3 (.two 4 (.y 5 (.y 6 (.y 7 (.one 8 (.last 9 (.y 10 .done)))))) 8 (.one 4 (.y 5 (.y 6 (.y 7 (.last 9 (.y 10 .done))))))) 8 (.one 3 (.one 4 (.y 5 (.y 6 (.y 7 (.last 9 (.y 10 .done)))))))) 8 (.one 1 (.one 3 (.one 4 (.y 5 (.y 6 (.y 7 (.last 9 (.y 10 .done))))))))))) HM ?_
                            refine Dt.T rfl wantN (D.ldN Try.underlying24 Y24) ?_
                            refine Dt.T rfl wantN (D.ldN Try.underlying24 Y24) ?_
                            refine Dt.B (g1 := false) (g2 := false) rfl rfl wantN wantN ?_ ?_
                            · skip
                              refine Ox.C true [] Try.func8 (laws_toTable.ac _ _ _ _ _ _ _ hc37) .nil ?_
                              refine Dt.B (g1 := false) (g2 := false) rfl rfl wantN wantN ?_ ?_
                              · skip
                                refine Ox.C true [] Try.func8 (laws_toTable.ac _ _ _ _ _ _ _ hc38) .nil ?_
                                refine Dt.B (g1 := false) (g2 := false) rfl rfl wantN wantN ?_ ?_
                                · skip
                                  refine Ox.C true [] Try.func9 (impl_MeetTables.ac _ _ _ _ _ _ _ _ _ _ _ hc39) .nil ?_
                                  refine Dt.Y rfl wantN Y.mv ?_
                                  refine Dt.Y rfl wantN Y.ex ?_
                                  refine Dt.Y rfl wantN Y.ex ?_
                                  refine Dt.O (g' := false) rfl wantN ?_
                                  refine Ox.M (M.al Y26) ?_
                                  refine Dt.L rfl wantN ?_
                                  refine Op.S (S.stb Y26) ?_
                                  refine Du.Y rfl wantN Y.asg ?_
                                  refine Du.nil ?_
                                  exact ⟨rfl, .inl ⟨rfl, rfl⟩⟩
                                · skip
                                  refine Ox.M (M.al Y26) ?_
                                  refine Dt.O (g' := false) rfl wantN ?_
                                  refine Ox.C true [] Try.func9 (impl_MeetTables.ac _ _ _ _ _ _ _ _ _ _ _ hc39) .nil ?_
                                  refine Dt.Y rfl wantN Y.mv ?_
                                  refine Dt.Y rfl wantN Y.ex ?_
                                  refine Dt.Y rfl wantN Y.ex ?_
                                  refine Dt.L rfl wantN ?_
                                  refine Op.S (S.stb Y26) ?_
                                  refine Du.Y rfl wantN Y.asg ?_
                                  refine Du.nil ?_
                                  exact ⟨rfl, .inr (IsPart.at [] [0, 1, 2, 3, 4, 5, 6, 7, 8, 9, 10, 11, 12, 13, 14, 15, 17, 16] base0 (H.c (H.c (H.c (H.c (H.c (H.c (H.c (H.c (H.c (H.c (H.c (H.c (H.c (H.c (H.c (H.c (H.c (H.c .nil)))))))))))))))))) (by repeat' first | exact .nil | refine E.c ?_))⟩
                              · skip
                                refine Ox.M (M.al Y26) ?_
                                refine Dt.O (g' := false) rfl wantN ?_
                                refine Ox.C true [] Try.func8 (laws_toTable.ac _ _ _ _ _ _ _ hc38) .nil ?_
                                refine Dt.O (g' := false) rfl wantN ?_
                                refine Ox.C true [] Try.func9 (impl_MeetTables.ac _ _ _ _ _ _ _ _ _ _ _ hc39) .nil ?_
                                refine Dt.Y rfl wantN Y.mv ?_
                                refine Dt.Y rfl wantN Y.ex ?_
                                refine Dt.Y rfl wantN Y.ex ?_
                                refine Dt.L rfl wantN ?_
                                refine Op.S (S.stb Y26) ?_
                                refine Du.Y rfl wantN Y.asg ?_
                                refine Du.nil ?_
                                exact ⟨rfl, .inr (IsPart.at [] [0, 1, 2, 3, 4, 5, 6, 7, 8, 9, 10, 11, 12, 13, 14, 16, 17, 15] base0 (H.c (H.c (H.c (H.c (H.c (H.c (H.c (H.c (H.c (H.c (H.c (H.c (H.c (H.c (H.c (H.c (H.c (H.c .nil)))))))))))))))))) (by repeat' first | exact .nil | refine E.c ?_))⟩
                            · skip
                              refine Ox.M (M.al Y26) ?_
                              refine Dt.O (g' := false) rfl wantN ?_
                              refine Ox.C true [] Try.func8 (laws_toTable.ac _ _ _ _ _ _ _ hc37) .nil ?_
                              refine Dt.O (g' := false) rfl wantN ?_
                              refine Ox.C true [] Try.func8 (laws_toTable.ac _ _ _ _ _ _ _ hc38) .nil ?_
                              refine Dt.O (g' := false) rfl wantN ?_
                              refine Ox.C true [] Try.func9 (impl_MeetTables.ac _ _ _ _ _ _ _ _ _ _ _ hc39) .nil ?_
                              refine Dt.Y rfl wantN Y.mv ?_
                              refine Dt.Y rfl wantN Y.ex ?_
                              refine Dt.Y rfl wantN Y.ex ?_
                              refine Dt.L rfl wantN ?_
                              refine Op.S (S.stb Y26) ?_
                              refine Du.Y rfl wantN Y.asg ?_
                              refine Du.nil ?_
                              exact ⟨rfl, .inr (IsPart.at [] [0, 1, 2, 3, 4, 5, 6, 7, 8, 9, 10, 11, 12, 13, 15, 16, 17, 14] base0 (H.c (H.c (H.c (H.c (H.c (H.c (H.c (H.c (H.c (H.c (H.c (H.c (H.c (H.c (H.c (H.c (H.c (H.c .nil)))))))))))))))))) (by repeat' first | exact .nil | refine E.c ?_))⟩
                          · skip
                            refine AWp.seq ?_
                            refine AWp.seq ?_
                            refine W.kp [0, 1, 2, 3, 4, 5, 6, 7, 8, 9, 10, 11, 12, 13, 14, 15, 16, 21, 26, 53, 58, 63, 82, 90, 93] ?_
                            refine AWp.region ?_
                            refine L.S (S.ldN Try.underlying26 Y26) ?_
                            refine L.S (S.ldN Try.underlying26 Y26) ?_
                            repeat (first | (rw [Option.ite_none_right_eq_some] at h; obtain ⟨_, h⟩ := h) | (rw [Option.ite_none_left_eq_some] at h; obtain ⟨_, h⟩ := h) | (simp only [Option.bind_some] at h))
                            obtain ⟨t257, hc40, h⟩ := Option.bind_eq_some_iff.1 h
                            repeat (first | (rw [Option.ite_none_right_eq_some] at h; obtain ⟨_, h⟩ := h) | (rw [Option.ite_none_left_eq_some] at h; obtain ⟨_, h⟩ := h) | (simp only [Option.bind_some] at h))
                            refine L.C (C.callE (l := true) [] Try.func10 (laws_eqTable.ac _ _ _ _ _ _ _ _ hc40) .nil ?_)
                            refine L.Y Y.nt ?_
                            refine L.Y Y.mv ?_
                            refine L.Gc (fun hb => ?_) (fun hb => ?_)
                            · have hb41 := hb
                              try simp only [decide_eq_true_eq, decide_eq_false_iff_not, Bool.not_eq_true', Bool.not_eq_false', Bool.not_eq_true, Bool.not_eq_false, beq_iff_eq, bne_iff_ne, beq_eq_false_iff_ne, bne_eq_false_iff_eq, ne_eq, Decidable.not_not] at hb
                              first | rw [if_pos hb41] at h | rw [if_neg (Bool.eq_false_iff.1 hb41)] at h | rw [if_pos hb] at h | rw [if_neg hb] at h | (simp only [hb, Bool.not_false, Bool.not_true, Bool.false_eq_true, if_true, if_false, reduceIte] at h)
                              repeat (first | (rw [Option.ite_none_right_eq_some] at h; obtain ⟨_, h⟩ := h) | (rw [Option.ite_none_left_eq_some] at h; obtain ⟨_, h⟩ := h) | (simp only [Option.bind_some] at h))
                              refine L.Gn hb41 ?_
                              refine L.Gn hb41 ?_
                              refine L.Gn hb41 ?_
                              refine L.Y (Y.pk (c := true) hb41) ?_
                              refine AList.nil ?_
                              rcases k with _ | k
                              · exact absurd h (by simp [laws_FnExactMeetTables.j2])
                              simp only [laws_FnExactMeetTables.j2] at h
                              repeat (first | (rw [Option.ite_none_right_eq_some] at h; obtain ⟨_, h⟩ := h) | (rw [Option.ite_none_left_eq_some] at h; obtain ⟨_, h⟩ := h) | (simp only [Option.bind_some] at h))
                              refine W.cond (fun hb => ?_) (fun hb => ?_)
                              rotate_left
                              · first | (cases hb; done) | contradiction | (simp_all; done) | (exfalso; (try simp only [decide_eq_true_eq, decide_eq_false_iff_not, Bool.not_eq_true', Bool.not_eq_false', Bool.not_eq_true, Bool.not_eq_false, beq_iff_eq, bne_iff_ne, beq_eq_false_iff_ne, bne_eq_false_iff_eq, ne_eq, Decidable.not_not] at hb); omega) | (exfalso; simp_all; omega)
                              have hb42 := hb
                              try (first | rw [if_pos hb42] at h | rw [if_neg (Bool.eq_false_iff.1 hb42)] at h | rw [if_pos hb] at h | rw [if_neg hb] at h | (simp only [hb, Bool.not_false, Bool.not_true, Bool.false_eq_true, if_true, if_false, reduceIte] at h))
                              repeat (first | (rw [Option.ite_none_right_eq_some] at h; obtain ⟨_, h⟩ := h) | (rw [Option.ite_none_left_eq_some] at h; obtain ⟨_, h⟩ := h) | (simp only [Option.bind_some] at h))
                              refine AWp.seq ?_
                              refine W.kp [0, 1, 2, 3, 4, 5, 6, 7, 8, 9, 10, 11, 12, 13, 14, 15, 16, 21, 26, 53, 58, 63, 82, 90, 93, 110] ?_
                              refine AWp.region ?_
                              refine L.Y Y.asg ?_
                              refine AList.nil ?_
                              repeat (first | (rw [Option.ite_none_right_eq_some] at h; obtain ⟨_, h⟩ := h) | (rw [Option.ite_none_left_eq_some] at h; obtain ⟨_, h⟩ := h) | (simp only [Option.bind_some] at h))
                              refine AWp.ret ?_
                              first | (exfalso; cases h; done) | exact ⟨.inr rfl, [(4, _)], _, ⟨rfl, rfl⟩, IsPart.at [] [] base0 .nil (E.c .nil)⟩
                            · have hb41 := hb
                              try simp only [decide_eq_true_eq, decide_eq_false_iff_not, Bool.not_eq_true', Bool.not_eq_false', Bool.not_eq_true, Bool.not_eq_false, beq_iff_eq, bne_iff_ne, beq_eq_false_iff_ne, bne_eq_false_iff_eq, ne_eq, Decidable.not_not] at hb
                              first | rw [if_pos hb41] at h | rw [if_neg (Bool.eq_false_iff.1 hb41)] at h | rw [if_pos hb] at h | rw [if_neg hb] at h | (simp only [hb, Bool.not_false, Bool.not_true, Bool.false_eq_true, if_true, if_false, reduceIte] at h)
                              repeat (first | (rw [Option.ite_none_right_eq_some] at h; obtain ⟨_, h⟩ := h) | (rw [Option.ite_none_left_eq_some] at h; obtain ⟨_, h⟩ := h) | (simp only [Option.bind_some] at h))
                              refine L.Gy hb41 Y.mv ?_
                              refine L.Gy hb41 Y.mv ?_
                              refine L.Gy hb41 (Y.bb Try.underlying4) ?_
                              refine L.Y (Y.pk (c := false) hb41) ?_
                              refine AList.nil ?_
                              rcases k with _ | k
                              · exact absurd h (by simp [laws_FnExactMeetTables.j2])
                              simp only [laws_FnExactMeetTables.j2] at h
                              repeat (first | (rw [Option.ite_none_right_eq_some] at h; obtain ⟨_, h⟩ := h) | (rw [Option.ite_none_left_eq_some] at h; obtain ⟨_, h⟩ := h) | (simp only [Option.bind_some] at h))
                              refine W.cond (fun hb => ?_) (fun hb => ?_)
                              · have hb43 := hb
                                try simp only [decide_eq_true_eq, decide_eq_false_iff_not, Bool.not_eq_true', Bool.not_eq_false', Bool.not_eq_true, Bool.not_eq_false, beq_iff_eq, bne_iff_ne, beq_eq_false_iff_ne, bne_eq_false_iff_eq, ne_eq, Decidable.not_not] at hb
                                first | rw [if_pos hb43] at h | rw [if_neg (Bool.eq_false_iff.1 hb43)] at h | rw [if_pos hb] at h | rw [if_neg hb] at h | (simp only [hb, Bool.not_false, Bool.not_true, Bool.false_eq_true, if_true, if_false, reduceIte] at h)
                                repeat (first | (rw [Option.ite_none_right_eq_some] at h; obtain ⟨_, h⟩ := h) | (rw [Option.ite_none_left_eq_some] at h; obtain ⟨_, h⟩ := h) | (simp only [Option.bind_some] at h))
                                refine AWp.seq ?_
                                refine W.kp [0, 1, 2, 3, 4, 5, 6, 7, 8, 9, 10, 11, 12, 13, 14, 15, 16, 21, 26, 53, 58, 63, 82, 90, 93, 110] ?_
                                refine AWp.region ?_
                                refine L.Y Y.asg ?_
                                refine AList.nil ?_
                                repeat (first | (rw [Option.ite_none_right_eq_some] at h; obtain ⟨_, h⟩ := h) | (rw [Option.ite_none_left_eq_some] at h; obtain ⟨_, h⟩ := h) | (simp only [Option.bind_some] at h))
                                refine AWp.ret ?_
                                first | (exfalso; cases h; done) | exact ⟨.inr rfl, [(4, _)], _, ⟨rfl, rfl⟩, IsPart.at [] [] base0 .nil (E.c .nil)⟩
                              · have hb43 := hb
                                try simp only [decide_eq_true_eq, decide_eq_false_iff_not, Bool.not_eq_true', Bool.not_eq_false', Bool.not_eq_true, Bool.not_eq_false, beq_iff_eq, bne_iff_ne, beq_eq_false_iff_ne, bne_eq_false_iff_eq, ne_eq, Decidable.not_not] at hb
                                first | rw [if_pos hb43] at h | rw [if_neg (Bool.eq_false_iff.1 hb43)] at h | rw [if_pos hb] at h | rw [if_neg hb] at h | (simp only [hb, Bool.not_false, Bool.not_true, Bool.false_eq_true, if_true, if_false, reduceIte] at h)
                                repeat (first | (rw [Option.ite_none_right_eq_some] at h; obtain ⟨_, h⟩ := h) | (rw [Option.ite_none_left_eq_some] at h; obtain ⟨_, h⟩ := h) | (simp only [Option.bind_some] at h))
                                refine AWp.skip ?_
                                refine AWp.seq ?_
                                refine W.kp [0, 1, 2, 3, 4, 5, 6, 7, 8, 9, 10, 11, 12, 13, 14, 15, 16, 21, 26, 53, 58, 63, 82, 90, 93, 110] ?_
                                refine AWp.region ?_
                                refine L.Y Y.asg ?_
                                refine AList.nil ?_
                                refine AWp.seq ?_
                                refine AWp.region ?_
                                refine L.S (S.ldN Try.underlying26 Y26) ?_
                                refine L.Y Y.mv ?_
                                repeat (first | (rw [Option.ite_none_right_eq_some] at h; obtain ⟨_, h⟩ := h) | (rw [Option.ite_none_left_eq_some] at h; obtain ⟨_, h⟩ := h) | (simp only [Option.bind_some] at h))
                                obtain ⟨t258, hc44, h⟩ := Option.bind_eq_some_iff.1 h
                                repeat (first | (rw [Option.ite_none_right_eq_some] at h; obtain ⟨_, h⟩ := h) | (rw [Option.ite_none_left_eq_some] at h; obtain ⟨_, h⟩ := h) | (simp only [Option.bind_some] at h))
                                refine L.C (C.callE (l := true) [] Try.func12 (laws_heldTable.ac _ _ _ _ _ _ hc44) .nil ?_)
                                refine L.Y Y.asg ?_
                                refine AList.nil ?_
                                refine AWp.seq ?_
                                refine AWp.seq ?_
                                refine AWp.region ?_
                                refine L.Y Y.mv ?_
                                refine L.Y Y.bin ?_
                                refine AList.nil ?_
                                refine W.cond (fun hb => ?_) (fun hb => ?_)
                                · have hb45 := hb
                                  try simp only [decide_eq_true_eq, decide_eq_false_iff_not, Bool.not_eq_true', Bool.not_eq_false', Bool.not_eq_true, Bool.not_eq_false, beq_iff_eq, bne_iff_ne, beq_eq_false_iff_ne, bne_eq_false_iff_eq, ne_eq, Decidable.not_not] at hb
                                  first | rw [if_pos hb45] at h | rw [if_neg (Bool.eq_false_iff.1 hb45)] at h | rw [if_pos hb] at h | rw [if_neg hb] at h | (simp only [hb, Bool.not_false, Bool.not_true, Bool.false_eq_true, if_true, if_false, reduceIte] at h)
                                  repeat (first | (rw [Option.ite_none_right_eq_some] at h; obtain ⟨_, h⟩ := h) | (rw [Option.ite_none_left_eq_some] at h; obtain ⟨_, h⟩ := h) | (simp only [Option.bind_some] at h))
                                  refine AWp.seq ?_
                                  refine W.kp [0, 1, 2, 3, 4, 5, 6, 7, 8, 9, 10, 11, 12, 13, 14, 15, 16, 21, 26, 53, 58, 63, 82, 90, 93, 110, 115] ?_
                                  refine AWp.region ?_
                                  refine L.Y Y.asg ?_
                                  refine AList.nil ?_
                                  repeat (first | (rw [Option.ite_none_right_eq_some] at h; obtain ⟨_, h⟩ := h) | (rw [Option.ite_none_left_eq_some] at h; obtain ⟨_, h⟩ := h) | (simp only [Option.bind_some] at h))
                                  refine AWp.ret ?_
                                  first | (exfalso; cases h; done) | exact ⟨.inr rfl, [(4, _)], _, ⟨rfl, rfl⟩, IsPart.at [] [] base0 .nil (E.c .nil)⟩
                                · have hb45 := hb
                                  try simp only [decide_eq_true_eq, decide_eq_false_iff_not, Bool.not_eq_true', Bool.not_eq_false', Bool.not_eq_true, Bool.not_eq_false, beq_iff_eq, bne_iff_ne, beq_eq_false_iff_ne, bne_eq_false_iff_eq, ne_eq, Decidable.not_not] at hb
                                  first | rw [if_pos hb45] at h | rw [if_neg (Bool.eq_false_iff.1 hb45)] at h | rw [if_pos hb] at h | rw [if_neg hb] at h | (simp only [hb, Bool.not_false, Bool.not_true, Bool.false_eq_true, if_true, if_false, reduceIte] at h)
                                  repeat (first | (rw [Option.ite_none_right_eq_some] at h; obtain ⟨_, h⟩ := h) | (rw [Option.ite_none_left_eq_some] at h; obtain ⟨_, h⟩ := h) | (simp only [Option.bind_some] at h))
                                  refine AWp.skip ?_
                                  refine AWp.seq ?_
                                  refine AWp.seq ?_
                                  refine W.kp [0, 1, 2, 3, 4, 5, 6, 7, 8, 9, 10, 11, 12, 13, 14, 15, 16, 21, 26, 53, 58, 63, 82, 90, 93, 110, 115] ?_
                                  refine AWp.region ?_
                                  refine L.Y Y.mv ?_
                                  refine L.Y Y.mv ?_
                                  refine L.Y Y.bin ?_
                                  refine AList.nil ?_
                                  refine W.cond (fun hb => ?_) (fun hb => ?_)
                                  · have hb46 := hb
                                    try simp only [decide_eq_true_eq, decide_eq_false_iff_not, Bool.not_eq_true', Bool.not_eq_false', Bool.not_eq_true, Bool.not_eq_false, beq_iff_eq, bne_iff_ne, beq_eq_false_iff_ne, bne_eq_false_iff_eq, ne_eq, Decidable.not_not] at hb
                                    first | rw [if_pos hb46] at h | rw [if_neg (Bool.eq_false_iff.1 hb46)] at h | rw [if_pos hb] at h | rw [if_neg hb] at h | (simp only [hb, Bool.not_false, Bool.not_true, Bool.false_eq_true, if_true, if_false, reduceIte] at h)
                                    repeat (first | (rw [Option.ite_none_right_eq_some] at h; obtain ⟨_, h⟩ := h) | (rw [Option.ite_none_left_eq_some] at h; obtain ⟨_, h⟩ := h) | (simp only [Option.bind_some] at h))
                                    refine AWp.seq ?_
                                    refine AWp.region ?_
                                    refine L.Y Y.asg ?_
                                    refine AList.nil ?_
                                    repeat (first | (rw [Option.ite_none_right_eq_some] at h; obtain ⟨_, h⟩ := h) | (rw [Option.ite_none_left_eq_some] at h; obtain ⟨_, h⟩ := h) | (simp only [Option.bind_some] at h))
                                    refine AWp.ret ?_
                                    first | (exfalso; cases h; done) | exact ⟨.inr rfl, [(4, _)], _, ⟨rfl, rfl⟩, IsPart.at [] [] base0 .nil (E.c .nil)⟩
                                  · have hb46 := hb
                                    try simp only [decide_eq_true_eq, decide_eq_false_iff_not, Bool.not_eq_true', Bool.not_eq_false', Bool.not_eq_true, Bool.not_eq_false, beq_iff_eq, bne_iff_ne, beq_eq_false_iff_ne, bne_eq_false_iff_eq, ne_eq, Decidable.not_not] at hb
                                    first | rw [if_pos hb46] at h | rw [if_neg (Bool.eq_false_iff.1 hb46)] at h | rw [if_pos hb] at h | rw [if_neg hb] at h | (simp only [hb, Bool.not_false, Bool.not_true, Bool.false_eq_true, if_true, if_false, reduceIte] at h)
                                    repeat (first | (rw [Option.ite_none_right_eq_some] at h; obtain ⟨_, h⟩ := h) | (rw [Option.ite_none_left_eq_some] at h; obtain ⟨_, h⟩ := h) | (simp only [Option.bind_some] at h))
                                    refine AWp.skip ?_
                                    refine AWp.seq ?_
                                    refine AWp.region ?_
                                    refine L.Y Y.asg ?_
                                    refine AList.nil ?_
                                    repeat (first | (rw [Option.ite_none_right_eq_some] at h; obtain ⟨_, h⟩ := h) | (rw [Option.ite_none_left_eq_some] at h; obtain ⟨_, h⟩ := h) | (simp only [Option.bind_some] at h))
                                    refine AWp.ret ?_
                                    first | (exfalso; cases h; done) | exact ⟨.inr rfl, [(4, _)], _, ⟨rfl, rfl⟩, IsPart.at [] [] base0 .nil (E.c .nil)⟩

/-- THE ONE PURE STATEMENT of laws_FnExactMeetTables: yours. -/
def laws_FnExactMeetTables.Pure : Prop := ∀ (a0_0 : Int) (a0_1 : Int) (l0_2 : List Int) (a1_0 : Int) (a1_1 : Int) (l1_2 : List Int), (Lit.int .i64 a0_0).wf = true → (Lit.int .i64 a0_1).wf = true → l0_2.length ≤ maxLen → (∀ x ∈ l0_2, (Lit.int .i64 x).wf = true) → (Lit.int .i64 a1_0).wf = true → (Lit.int .i64 a1_1).wf = true → l1_2.length ≤ maxLen → (∀ x ∈ l1_2, (Lit.int .i64 x).wf = true) → ∃ k, laws_FnExactMeetTables.f k a0_0 a0_1 l0_2 a1_0 a1_1 l1_2 = some true
theorem laws_FnExactMeetTables.walk (P : laws_FnExactMeetTables.Pure) (a0_0 : Int) (a0_1 : Int) (a0_2 : Option Addr) (len0_2 cap0_2 : Nat) (z0_2 : List Int) (a1_0 : Int) (a1_1 : Int) (a1_2 : Option Addr) (len1_2 cap1_2 : Nat) (z1_2 : List Int) (w : World) (w0_0 : (Lit.int .i64 a0_0).wf = true) (w0_1 : (Lit.int .i64 a0_1).wf = true) (w0_2 : (a0_2 = none ∧ len0_2 = 0 ∧ cap0_2 = 0 ∧ z0_2 = []) ∨ ∃ x, a0_2 = some x ∧ len0_2 ≤ cap0_2 ∧ cap0_2 ≤ maxLen ∧ z0_2.length = cap0_2 ∧ (∀ i, i < z0_2.length → w.cell? (x.add i) = some (.int .i64 (z0_2.getD i 0))) ∧ ∀ n ∈ z0_2, (Lit.int .i64 n).wf = true) (w1_0 : (Lit.int .i64 a1_0).wf = true) (w1_1 : (Lit.int .i64 a1_1).wf = true) (w1_2 : (a1_2 = none ∧ len1_2 = 0 ∧ cap1_2 = 0 ∧ z1_2 = []) ∨ ∃ x, a1_2 = some x ∧ len1_2 ≤ cap1_2 ∧ cap1_2 ≤ maxLen ∧ z1_2.length = cap1_2 ∧ (∀ i, i < z1_2.length → w.cell? (x.add i) = some (.int .i64 (z1_2.getD i 0))) ∧ ∀ n ∈ z1_2, (Lit.int .i64 n).wf = true) :
    Calls Try.prog 3 #[.agg #[.int .i64 a0_0, .int .i64 a0_1, .slice a0_2 len0_2 cap0_2], .agg #[.int .i64 a1_0, .int .i64 a1_1, .slice a1_2 len1_2 cap1_2]] w fun e w' => e = .returned (.bool true) ∧ Below w.heap.size w w' := by
  obtain ⟨hl0_2, hv0_2⟩ := VR.came (A0 := fun _ => .bool false) (H := []) w0_2
  obtain ⟨hm0_2, hw0_2⟩ := came_fits w0_2
  obtain ⟨hl1_2, hv1_2⟩ := VR.came (A0 := fun _ => .bool false) (H := []) w1_2
  obtain ⟨hm1_2, hw1_2⟩ := came_fits w1_2
  obtain ⟨k, h⟩ := P a0_0 a0_1 (z0_2.take len0_2) a1_0 a1_1 (z1_2.take len1_2) w0_0 w0_1 hm0_2 hw0_2 w1_0 w1_1 hm1_2 hw1_2
  refine ACalls.law (vs := [.agg #[.int .i64 a0_0, .int .i64 a0_1, .slice a0_2 len0_2 cap0_2], .agg #[.int .i64 a1_0, .int .i64 a1_1, .slice a1_2 len1_2 cap1_2]]) (fun p hp => by cases hp) (laws_FnExactMeetTables.ac k a0_0 a0_1 (z0_2.take len0_2) a1_0 a1_1 (z1_2.take len1_2) h) ?_
  repeat' first | assumption | exact VRs_nil | exact VR_lit | refine VRs_cons ?_ ?_ | refine VR_agg ?_

end Go.Proofs.Ytakabmokpknknaa.PFnExactMeetTables
