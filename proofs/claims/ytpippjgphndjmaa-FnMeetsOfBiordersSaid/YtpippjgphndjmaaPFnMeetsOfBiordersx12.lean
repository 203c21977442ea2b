-- Written by a program of this session's (wip/myprint2): the functions by the kit's print, the walks by awgen.py. Lean checks it.
import Derived.Test.YtpippjgphndjmaaPFnMeetsOfBiordersx0
import Derived.Test.YtpippjgphndjmaaPFnMeetsOfBiordersx3
import Derived.Test.YtpippjgphndjmaaPFnMeetsOfBiordersx9
import Derived.Test.YtpippjgphndjmaaPFnMeetsOfBiordersx11
namespace Go.Proofs.Ytpippjgphndjmaa.PFnMeetsOfBiorders
open Go.RowKit Go.Proofs.YtpippjgphndjmaaW.PrintWords Go.Proofs.YtpippjgphndjmaaW.PrintLast Go.Proofs.YtpippjgphndjmaaW.PrintMore Go.Proofs.YtpippjgphndjmaaM Go.Proofs.YtpippjgphndjmaaA
attribute [local go_sem] max2_int min2_int max_two min_two max_three min_three max_four min_four   -- for this text's walks alone
set_option linter.unusedVariables false
set_option linter.unusedSimpArgs false

/-! ### spec_DrawIsTable: function 64 -/
def spec_DrawIsTable.f (k : Nat) (l0 : List Int) : Option (Int × Int × List Int) := (spec_l1Cur_table.f k l0 0 0).bind fun bt442 => (some (bt442.1, bt442.2.1, bt442.2.2.1))
set_option maxRecDepth 100000 in
set_option maxHeartbeats 20000000 in
theorem spec_DrawIsTable.ac (k : Nat) (l0 : List Int) (r1 : Int) (r2 : Int) (r3 : List Int) (h : spec_DrawIsTable.f k l0 = some (r1, r2, r3)) :
  ACalls Try.prog 64 [.row 1 l0.length false (ints .u8 l0)] [] (fun v H' => v = .agg [.lit (.int .i64 r1), .lit (.int .i64 r2), .own 0 r3.length] ∧ H' = [.sl 3 1 r3.length false (ints .i64 r3)]) := by
 refine ACalls.ofV Try.func64 rfl (by exact Nat.le_of_ble_eq_true rfl) ?_
 simp only [Try.ntmps64, env0, spec_DrawIsTable.f] at h ⊢
 refine AWp.seq ?_
 refine AWp.region ?_
 refine L.M (M.al Y28) ?_
 refine AList.nil ?_
 refine AWp.seq ?_
 refine AWp.region ?_
 refine L.Y Y.mv ?_
 refine L.Y (Y.bd Try.underlying77 Y77 P77) ?_
 refine L.M M.bx ?_
 refine L.Y Y.asg ?_
 refine AList.nil ?_
 refine AWp.seq ?_
 refine AWp.region ?_
 refine L.Y Y.mv ?_
 obtain ⟨⟨t442, t443, t444, t447, t448⟩, hc1, h⟩ := Option.bind_eq_some_iff.1 h
 dsimp only at h
 refine L.C (C.callE (l := false) [1] Try.func65 (spec_l1Cur_table.ac _ _ _ _ _ _ _ _ _ hc1) (H.c .nil) ?_)
 refine L.S (S.stb Y28) ?_
 refine AList.nil ?_
 simp only [Option.some.injEq, Prod.mk.injEq] at h
 obtain ⟨rfl, rfl, rfl⟩ := h
 refine AWp.ret ?_
 exact ⟨.inr rfl, _, _, _, Res.cl Try.underlying28 Y28, ⟨rfl, rfl⟩, PartV.at [] [2] base0 (H.c .nil)⟩

/-! ### spec_DrawMeetOfBiorders: function 36 -/
def spec_DrawMeetOfBiorders.f (k : Nat) (l0 : List Int) : Option (Int × Int × List Int) := (spec_DrawIsTable.f k l0).bind fun bt450 => (some (bt450.1, bt450.2.1, bt450.2.2))
set_option maxRecDepth 100000 in
set_option maxHeartbeats 20000000 in
theorem spec_DrawMeetOfBiorders.ac (k : Nat) (l0 : List Int) (r1 : Int) (r2 : Int) (r3 : List Int) (h : spec_DrawMeetOfBiorders.f k l0 = some (r1, r2, r3)) :
  ACalls Try.prog 36 [.row 1 l0.length false (ints .u8 l0)] [] (fun v H' => v = .agg [.lit (.int .i64 r1), .lit (.int .i64 r2), .own 0 r3.length] ∧ H' = [.sl 3 1 r3.length false (ints .i64 r3)]) := by
 refine ACalls.ofV Try.func36 rfl (by exact Nat.le_of_ble_eq_true rfl) ?_
 simp only [Try.ntmps36, env0, spec_DrawMeetOfBiorders.f] at h ⊢
 refine AWp.seq ?_
 refine AWp.region ?_
 refine L.M (M.al Y28) ?_
 refine AList.nil ?_
 refine AWp.seq ?_
 refine AWp.region ?_
 refine L.Y Y.mv ?_
 obtain ⟨⟨t450, t451, t452⟩, hc1, h⟩ := Option.bind_eq_some_iff.1 h
 dsimp only at h
 refine L.C (C.callE (l := true) [] Try.func64 (spec_DrawIsTable.ac _ _ _ _ _ hc1) .nil ?_)
 refine L.S (S.stb Y28) ?_
 refine AList.nil ?_
 simp only [Option.some.injEq, Prod.mk.injEq] at h
 obtain ⟨rfl, rfl, rfl⟩ := h
 refine AWp.ret ?_
 exact ⟨.inr rfl, _, _, _, Res.cl Try.underlying28 Y28, ⟨rfl, rfl⟩, PartV.at [] [1] base0 (H.c .nil)⟩

/-! ### impl_EmptyCells: function 37 -/
def impl_EmptyCells.f (k : Nat) (a0_0 : Int) (a0_1 : Int) (l0_2 : List Int) : Option (List Int × Bool) := (impl_IsTable.f k a0_0 a0_1 l0_2).bind fun t456 => (if t456 = true then ((impl_Table_emptyCells.f k a0_0 a0_1 l0_2).bind fun t457 => (some (t457, true))) else (some (([] : List Int), false)))
set_option maxRecDepth 100000 in
set_option maxHeartbeats 20000000 in
theorem impl_EmptyCells.ac (k : Nat) (a0_0 : Int) (a0_1 : Int) (l0_2 : List Int) (r1 : List Int) (r2 : Bool) (h : impl_EmptyCells.f k a0_0 a0_1 l0_2 = some (r1, r2)) :
  ACalls Try.prog 37 [.agg [.lit (.int .i64 a0_0), .lit (.int .i64 a0_1), .row 1 l0_2.length false (ints .i64 l0_2)]] [] (fun v H' => v = .tup [.own 0 r1.length, .lit (.bool r2)] ∧ H' = [.sl 3 1 r1.length false (ints .i64 r1)]) := by
 refine ACalls.ofP [2, 3] Try.func37 rfl (by exact Nat.le_of_ble_eq_true rfl) rfl (by decide) ?_
 simp only [Try.ntmps37, env0, impl_EmptyCells.f] at h ⊢
 refine AWp.seq ?_
 refine AWp.region ?_
 refine L.M M.bx ?_
 refine L.Y Y.asg ?_
 refine L.Y Y.asg ?_
 refine AList.nil ?_
 refine AWp.seq ?_
 refine AWp.seq ?_
 refine AWp.region ?_
 refine L.S (S.ldN Try.underlying28 Y28) ?_
 obtain ⟨t456, hc1, h⟩ := Option.bind_eq_some_iff.1 h
 refine L.C (C.callE (l := true) [] Try.func52 (impl_IsTable.ac _ _ _ _ _ hc1) .nil ?_)
 refine L.Y Y.nt ?_
 refine AList.nil ?_
 refine W.cond (fun hb => ?_) (fun hb => ?_)
 ·
  have hb2 := hb
  try simp only [hS, hE, ne_eq] at hb
  first | rw [if_pos hb2] at h | rw [if_neg (Bool.eq_false_iff.1 hb2)] at h | rw [if_pos hb] at h | rw [if_neg hb] at h | (simp only [hb, hT, reduceIte] at h) | skip
  refine AWp.seq ?_
  refine AWp.region ?_
  refine L.Y Y.asg ?_
  refine L.Y Y.asg ?_
  refine AList.nil ?_
  simp only [Option.some.injEq, Prod.mk.injEq] at h
  obtain ⟨rfl, rfl⟩ := h
  refine AWp.ret ?_
  exact ⟨.inr rfl, [(2, _), (3, _)], _, ⟨rfl, rfl⟩, IsPart.at [(3, 1)] [1] base0 (H.c .nil) (E.c (E.c .nil))⟩
 ·
  have hb2 := hb
  try simp only [hS, hE, ne_eq] at hb
  first | rw [if_pos hb2] at h | rw [if_neg (Bool.eq_false_iff.1 hb2)] at h | rw [if_pos hb] at h | rw [if_neg hb] at h | (simp only [hb, hT, reduceIte] at h) | skip
  refine AWp.skip ?_
  refine AWp.seq ?_
  refine AWp.region ?_
  refine L.S (S.ldN Try.underlying28 Y28) ?_
  obtain ⟨t457, hc3, h⟩ := Option.bind_eq_some_iff.1 h
  refine L.C (C.callE (l := true) [] Try.func63 (impl_Table_emptyCells.ac _ _ _ _ _ hc3) .nil ?_)
  refine L.Y Y.asg ?_
  refine L.Y Y.asg ?_
  refine AList.nil ?_
  simp only [Option.some.injEq, Prod.mk.injEq] at h
  obtain ⟨rfl, rfl⟩ := h
  refine AWp.ret ?_
  exact ⟨.inr rfl, [(2, _), (3, _)], _, ⟨rfl, rfl⟩, IsPart.at [] [1] base0 (H.c .nil) (E.c (E.c .nil))⟩

/-! ### spec_DrawSplitCells: function 38 -/
def spec_DrawSplitCells.f (k : Nat) (l0 : List Int) : Option (Int × Int × List Int × Int) := (spec_l1Cur_table.f k l0 0 0).bind fun bt462 => ((spec_l1Cur_among.f l0 bt462.2.2.2.1 bt462.2.2.2.2 (([1, 1, 2, 2, 3, 4, 5, 0] : List Int))).bind fun bt472 => (some (bt462.1, bt462.2.1, bt462.2.2.1, bt472.1)))
set_option maxRecDepth 100000 in
set_option maxHeartbeats 20000000 in
theorem spec_DrawSplitCells.ac (k : Nat) (l0 : List Int) (r1 : Int) (r2 : Int) (r3 : List Int) (r4 : Int) (h : spec_DrawSplitCells.f k l0 = some (r1, r2, r3, r4)) :
  ACalls Try.prog 38 [.row 1 l0.length false (ints .u8 l0)] [] (fun v H' => v = .tup [.agg [.lit (.int .i64 r1), .lit (.int .i64 r2), .own 0 r3.length], .lit (.int .i64 r4)] ∧ H' = [.sl 3 1 r3.length false (ints .i64 r3)]) := by
 refine ACalls.ofV Try.func38 rfl (by exact Nat.le_of_ble_eq_true rfl) ?_
 simp only [Try.ntmps38, env0, spec_DrawSplitCells.f] at h ⊢
 refine AWp.seq ?_
 refine AWp.region ?_
 refine L.M (M.al Y28) ?_
 refine L.Y Y.asg ?_
 refine AList.nil ?_
 refine AWp.seq ?_
 refine AWp.region ?_
 refine L.Y Y.mv ?_
 refine L.Y (Y.bd Try.underlying77 Y77 P77) ?_
 refine L.M M.bx ?_
 refine L.Y Y.asg ?_
 refine AList.nil ?_
 refine AWp.seq ?_
 refine AWp.region ?_
 refine L.Y Y.mv ?_
 obtain ⟨⟨t462, t463, t464, t467, t468⟩, hc1, h⟩ := Option.bind_eq_some_iff.1 h
 dsimp only at h
 repeat (first | (rw [iN] at h; obtain ⟨_, h⟩ := h) | (rw [iP] at h; obtain ⟨_, h⟩ := h) | (simp only [bS] at h))
 refine L.C (C.callE (l := false) [1] Try.func65 (spec_l1Cur_table.ac _ _ _ _ _ _ _ _ _ hc1) (H.c .nil) ?_)
 refine L.Y Y.mv ?_
 refine L.M (M.bs Try.underlying22 Y3) ?_
 obtain ⟨⟨t472, t473, t474⟩, hc2, h⟩ := Option.bind_eq_some_iff.1 h
 dsimp only at h
 refine L.C ?_
 refine C.frz 3 ?_
 refine C.callE (l := false) [1] Try.func66 (spec_l1Cur_among.ac _ _ _ _ _ _ _ hc2) (H.c .nil) ?_
 refine L.S (S.stb Y28) ?_
 refine L.Y Y.asg ?_
 refine AList.nil ?_
 simp only [Option.some.injEq, Prod.mk.injEq] at h
 obtain ⟨rfl, rfl, rfl, rfl⟩ := h
 refine AWp.ret ?_
 exact ⟨.inr rfl, _, _, _, Res.c2 Try.underlying28 Y28, ⟨rfl, rfl⟩, PartV.at [] [2] base0 (H.c .nil)⟩

end Go.Proofs.Ytpippjgphndjmaa.PFnMeetsOfBiorders
