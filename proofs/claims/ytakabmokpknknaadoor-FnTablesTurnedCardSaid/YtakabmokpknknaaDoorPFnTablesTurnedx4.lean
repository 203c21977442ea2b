-- Written by a program of this session's (wip/myprint2): the functions by the kit's print, the walks by awgen.py. Lean checks it.
import Derived.Test.YtakabmokpknknaaDoorPFnTablesTurnedx0
import Derived.Test.YtakabmokpknknaaDoorPFnTablesTurnedx1
import Derived.Test.YtakabmokpknknaaDoorPFnTablesTurnedx3
namespace Go.Proofs.YtakabmokpknknaaDoor.PFnTablesTurned
open Go.RowKit Go.Proofs.YtakabmokpknknaaDoorW.PrintWords Go.Proofs.YtakabmokpknknaaDoorW.PrintLast Go.Proofs.YtakabmokpknknaaDoorW.PrintMore Go.Proofs.YtakabmokpknknaaDoorM Go.Proofs.YtakabmokpknknaaDoorA Go.Proofs.YtakabmokpknknaaDoorT
attribute [local go_sem] max2_int min2_int max_two min_two max_three min_three max_four min_four   -- for this text's walks alone
set_option linter.unusedVariables false
set_option linter.unusedSimpArgs false

/-! ### spec_feGood: function 108 -/
def spec_feGood.f (k : Nat) (a0_0 : Int) (a0_1 : Int) (l0_2 : List Int) : Option (Bool) := (spec_l1In.f a0_0 1 6).bind fun t198 => (if t198 = true then ((spec_l1In.f a0_1 1 6).bind fun t199 => (if t199 = true then (if (l0_2.length : Int) = a0_0 then (if 0 ≤ a0_1 then ((spec_l1All.f k l0_2 0 (wrap64 ((shl .i64 1 a0_1) - 1))).bind fun t200 => (some t200)) else (none)) else (some false)) else (some false))) else (some false))
set_option maxRecDepth 100000 in
set_option maxHeartbeats 20000000 in
theorem spec_feGood.ac (k : Nat) (a0_0 : Int) (a0_1 : Int) (l0_2 : List Int) (r : Bool) (h : spec_feGood.f k a0_0 a0_1 l0_2 = some r) :
  ACalls Tryd.prog 108 [.agg [.lit (.int .i64 a0_0), .lit (.int .i64 a0_1), .row 1 l0_2.length false (ints .i64 l0_2)]] [] (fun v H' => v = .lit (.bool r) ∧ H' = []) := by
 refine ACalls.ofP [2] Tryd.func108 rfl (by exact Nat.le_of_ble_eq_true rfl) rfl (by decide) ?_
 simp only [Tryd.ntmps108, env0, spec_feGood.f] at h ⊢
 refine AWp.seq ?_
 refine AWp.region ?_
 refine L.M M.bx ?_
 refine L.Y Y.asg ?_
 refine AList.nil ?_
 refine AWp.seq ?_
 refine Dt.reg [] [] (.y 0 (.t 1 (.one 2 (.y 3 (.y 4 (.t 5 (.one 6 (.y 7 (.y 8 (.y 9 (.t 10 (.y 11 (.y 12 (.t 13 (.y 14 (.y 15 (.y 16 (.y 17 (.t 18 (.y 19 (.t 20 (.y 21 (.y 22 (.one 23 (.y 24 (.y 25 .done)))))))))))))))))))))))))) HM ?_
 refine Dt.Y rfl wantN (Y.fa (off := 0) Tryd.underlying59 Y3) ?_
 refine Dt.T rfl wantN (D.ld Tryd.underlying3) ?_
 refine Dt.O (g' := false) rfl wantN ?_
 replace h := Option.bind_eq_some_iff.1 h
 obtain ⟨t198, hc1, h⟩ := h
 refine Ox.C true [] Tryd.func148 (spec_l1In.ac _ _ _ _ hc1) .nil ?_
 refine Dt.Y rfl wantN Y.mv ?_
 refine Dt.F 6 (fun hb => ?_) (fun hb => ?_)
 ·
  have hb2 := hb
  try simp only [hS, hE, ne_eq] at hb
  first | rw [if_pos hb2] at h | rw [if_neg (Bool.eq_false_iff.1 hb2)] at h | rw [if_pos hb] at h | rw [if_neg hb] at h | (simp only [hb, hT, reduceIte] at h) | skip
  refine Dt.Y rfl (wantY hb2) (Y.fa (off := 1) Tryd.underlying59 Y3) ?_
  refine Dt.T rfl (wantY hb2) (D.ld Tryd.underlying3) ?_
  refine Dt.O (g' := false) rfl (wantY hb2) ?_
  replace h := Option.bind_eq_some_iff.1 h
  obtain ⟨t199, hc3, h⟩ := h
  refine Ox.C true [] Tryd.func148 (spec_l1In.ac _ _ _ _ hc3) .nil ?_
  refine Dt.Y rfl wantN (Y.pk (c := true) hb2) ?_
  refine Dt.Y rfl wantN Y.mv ?_
  refine Dt.F 11 (fun hb => ?_) (fun hb => ?_)
  ·
   have hb4 := hb
   try simp only [hS, hE, ne_eq] at hb
   first | rw [if_pos hb4] at h | rw [if_neg (Bool.eq_false_iff.1 hb4)] at h | rw [if_pos hb] at h | rw [if_neg hb] at h | (simp only [hb, hT, reduceIte] at h) | skip
   refine Dt.Y rfl (wantY hb4) (Y.fa (off := 2) Tryd.underlying59 Y22) ?_
   refine Dt.T rfl (wantY hb4) (D.ld Tryd.underlying22) ?_
   refine Dt.Y rfl (wantY hb4) (Y.ln Tryd.underlying22) ?_
   refine Dt.Y rfl (wantY hb4) (Y.fa (off := 0) Tryd.underlying59 Y3) ?_
   refine Dt.T rfl (wantY hb4) (D.ld Tryd.underlying3) ?_
   refine Dt.Y rfl (wantY hb4) Y.bin ?_
   refine Dt.Y rfl wantN (Y.pk (c := true) hb4) ?_
   refine Dt.Y rfl wantN Y.mv ?_
   refine Dt.F 19 (fun hb => ?_) (fun hb => ?_)
   ·
    have hb5 := hb
    try simp only [hS, hE, ne_eq] at hb
    first | rw [if_pos hb5] at h | rw [if_neg (Bool.eq_false_iff.1 hb5)] at h | rw [if_pos hb] at h | rw [if_neg hb] at h | (simp only [hb, hT, reduceIte] at h) | skip
    repeat (first | (rw [iN] at h; obtain ⟨_, h⟩ := h) | (rw [iP] at h; obtain ⟨_, h⟩ := h) | (simp only [bS] at h))
    refine Dt.Y rfl (wantY hb5) (Y.fa (off := 2) Tryd.underlying59 Y22) ?_
    refine Dt.T rfl (wantY hb5) (D.ld Tryd.underlying22) ?_
    refine Dt.Y rfl (wantY hb5) (Y.fa (off := 1) Tryd.underlying59 Y3) ?_
    refine Dt.T rfl (wantY hb5) (D.ld Tryd.underlying3) ?_
    refine Dt.Y rfl (wantY hb5) Y.bin ?_
    refine Dt.Y rfl (wantY hb5) Y.bin ?_
    refine Dt.O (g' := false) rfl (wantY hb5) ?_
    replace h := Option.bind_eq_some_iff.1 h
    obtain ⟨t200, hc6, h⟩ := h
    refine Ox.C true [] Tryd.func149 (spec_l1All.ac _ _ _ _ _ hc6) .nil ?_
    refine Dt.Y rfl wantN (Y.pk (c := true) hb5) ?_
    refine Dt.Y rfl wantN Y.asg ?_
    refine Dt.nil ?_
    obtain rfl := Option.some.inj h
    refine AWp.ret ?_
    exact ⟨.inr rfl, [(2, _)], _, ⟨rfl, rfl⟩, IsPart.at [] [] base0 .nil (E.c .nil)⟩
   ·
    have hb5 := hb
    try simp only [hS, hE, ne_eq] at hb
    first | rw [if_pos hb5] at h | rw [if_neg (Bool.eq_false_iff.1 hb5)] at h | rw [if_pos hb] at h | rw [if_neg hb] at h | (simp only [hb, hT, reduceIte] at h) | skip
    refine Dt.No rfl (wantZ hb5) ?_
    refine Dt.Nt rfl (wantZ hb5) ?_
    refine Dt.No rfl (wantZ hb5) ?_
    refine Dt.Nt rfl (wantZ hb5) ?_
    refine Dt.No rfl (wantZ hb5) ?_
    refine Dt.No rfl (wantZ hb5) ?_
    refine Dt.Po rfl (wantZ hb5) ?_
    refine Dt.Y rfl wantN (Y.pk (c := false) hb5) ?_
    refine Dt.Y rfl wantN Y.asg ?_
    refine Dt.nil ?_
    obtain rfl := Option.some.inj h
    refine AWp.ret ?_
    exact ⟨.inr rfl, [(2, _)], _, ⟨rfl, rfl⟩, IsPart.at [] [] base0 .nil (E.c .nil)⟩
  ·
   have hb4 := hb
   try simp only [hS, hE, ne_eq] at hb
   first | rw [if_pos hb4] at h | rw [if_neg (Bool.eq_false_iff.1 hb4)] at h | rw [if_pos hb] at h | rw [if_neg hb] at h | (simp only [hb, hT, reduceIte] at h) | skip
   refine Dt.No rfl (wantZ hb4) ?_
   refine Dt.Nt rfl (wantZ hb4) ?_
   refine Dt.No rfl (wantZ hb4) ?_
   refine Dt.No rfl (wantZ hb4) ?_
   refine Dt.Nt rfl (wantZ hb4) ?_
   refine Dt.No rfl (wantZ hb4) ?_
   refine Dt.Y rfl wantN (Y.pk (c := false) hb4) ?_
   refine Dt.Y rfl wantN Y.mv ?_
   refine Dt.F 19 (fun hb => ?_) (fun hb => ?_)
   ·
    first | exact Bool.false_ne_true ((Eq.symm (by assumption)).trans hb) | exact Bool.false_ne_true (hb.symm.trans (by assumption)) | exact DD hb
   have hb7 := hb
   refine Dt.No rfl (wantZ hb7) ?_
   refine Dt.Nt rfl (wantZ hb7) ?_
   refine Dt.No rfl (wantZ hb7) ?_
   refine Dt.Nt rfl (wantZ hb7) ?_
   refine Dt.No rfl (wantZ hb7) ?_
   refine Dt.No rfl (wantZ hb7) ?_
   refine Dt.Po rfl (wantZ hb7) ?_
   refine Dt.Y rfl wantN (Y.pk (c := false) hb7) ?_
   refine Dt.Y rfl wantN Y.asg ?_
   refine Dt.nil ?_
   obtain rfl := Option.some.inj h
   refine AWp.ret ?_
   exact ⟨.inr rfl, [(2, _)], _, ⟨rfl, rfl⟩, IsPart.at [] [] base0 .nil (E.c .nil)⟩
 ·
  have hb2 := hb
  try simp only [hS, hE, ne_eq] at hb
  first | rw [if_pos hb2] at h | rw [if_neg (Bool.eq_false_iff.1 hb2)] at h | rw [if_pos hb] at h | rw [if_neg hb] at h | (simp only [hb, hT, reduceIte] at h) | skip
  refine Dt.No rfl (wantZ hb2) ?_
  refine Dt.Nt rfl (wantZ hb2) ?_
  refine Dt.Po rfl (wantZ hb2) ?_
  refine Dt.Y rfl wantN (Y.pk (c := false) hb2) ?_
  refine Dt.Y rfl wantN Y.mv ?_
  refine Dt.F 11 (fun hb => ?_) (fun hb => ?_)
  ·
   first | exact Bool.false_ne_true ((Eq.symm (by assumption)).trans hb) | exact Bool.false_ne_true (hb.symm.trans (by assumption)) | exact DD hb
  have hb8 := hb
  refine Dt.No rfl (wantZ hb8) ?_
  refine Dt.Nt rfl (wantZ hb8) ?_
  refine Dt.No rfl (wantZ hb8) ?_
  refine Dt.No rfl (wantZ hb8) ?_
  refine Dt.Nt rfl (wantZ hb8) ?_
  refine Dt.No rfl (wantZ hb8) ?_
  refine Dt.Y rfl wantN (Y.pk (c := false) hb8) ?_
  refine Dt.Y rfl wantN Y.mv ?_
  refine Dt.F 19 (fun hb => ?_) (fun hb => ?_)
  ·
   first | exact Bool.false_ne_true ((Eq.symm (by assumption)).trans hb) | exact Bool.false_ne_true (hb.symm.trans (by assumption)) | exact DD hb
  have hb9 := hb
  refine Dt.No rfl (wantZ hb9) ?_
  refine Dt.Nt rfl (wantZ hb9) ?_
  refine Dt.No rfl (wantZ hb9) ?_
  refine Dt.Nt rfl (wantZ hb9) ?_
  refine Dt.No rfl (wantZ hb9) ?_
  refine Dt.No rfl (wantZ hb9) ?_
  refine Dt.Po rfl (wantZ hb9) ?_
  refine Dt.Y rfl wantN (Y.pk (c := false) hb9) ?_
  refine Dt.Y rfl wantN Y.asg ?_
  refine Dt.nil ?_
  obtain rfl := Option.some.inj h
  refine AWp.ret ?_
  exact ⟨.inr rfl, [(2, _)], _, ⟨rfl, rfl⟩, IsPart.at [] [] base0 .nil (E.c .nil)⟩

/-! ### spec_DrawMeetTables: function 37 -/
mutual
def spec_DrawMeetTables.j0 : Nat → Bool → List Int → Int → Int → Int → Int → List Int → Option (Int × Int × List Int × Int × Int × List Int)
 | 0, _, _, _, _, _, _, _ => none
 | k + 1, x18, x204000, x204001, x204002, x212000, x212001, x212002 => if x18 = true then ((spec_l1Cur_table.f k x204000 x204001 x204002).bind fun bt216 => (some (x212000, x212001, x212002, bt216.1, bt216.2.1, bt216.2.2.1))) else (spec_DrawMeetTables.l0 k (x212002.length : Int) 0 x204000 x204001 x204002 x212000 x212001 x212002 x212000 x212001 ([] : List Int))
def spec_DrawMeetTables.l0 : Nat → Int → Int → List Int → Int → Int → Int → Int → List Int → Int → Int → List Int → Option (Int × Int × List Int × Int × Int × List Int)
 | 0, _, _, _, _, _, _, _, _, _, _, _ => none
 | k + 1, x29, x30, x204000, x204001, x204002, x212000, x212001, x212002, x224000, x224001, x224002 => if x30 < x29 then (if 0 ≤ x212001 then ((spec_l1Cur_pick.f x204000 x204001 x204002 (shl .i64 1 x212001)).bind fun bt224 => (if x224002.length < 17592186044416 then (spec_DrawMeetTables.l0 k x29 (wrap64 (x30 + 1)) x204000 bt224.2.1 bt224.2.2 x212000 x212001 x212002 x224000 x224001 (x224002 ++ [bt224.1])) else (none))) else (none)) else (some (x212000, x212001, x212002, x224000, x224001, x224002))
end
def spec_DrawMeetTables.f (k : Nat) (l0 : List Int) : Option (Int × Int × List Int × Int × Int × List Int) := (spec_l1Cur_table.f k l0 0 0).bind fun bt204 => ((spec_feGood.f k bt204.1 bt204.2.1 bt204.2.2.1).bind fun t212 => (if t212 = true then ((spec_l1Cur_one.f l0 bt204.2.2.2.1 bt204.2.2.2.2 6).bind fun bt213 => (spec_DrawMeetTables.j0 k bt213.1 l0 bt213.2.1 bt213.2.2 bt204.1 bt204.2.1 bt204.2.2.1)) else (spec_DrawMeetTables.j0 k true l0 bt204.2.2.2.1 bt204.2.2.2.2 bt204.1 bt204.2.1 bt204.2.2.1)))
set_option maxRecDepth 100000 in
set_option maxHeartbeats 20000000 in
theorem spec_DrawMeetTables.ac (k : Nat) (l0 : List Int) (r1 : Int) (r2 : Int) (r3 : List Int) (r4 : Int) (r5 : Int) (r6 : List Int) (h : spec_DrawMeetTables.f k l0 = some (r1, r2, r3, r4, r5, r6)) :
  ACalls Tryd.prog 37 [.row 1 l0.length false (ints .u8 l0)] [] (fun v H' => v = .tup [.agg [.lit (.int .i64 r1), .lit (.int .i64 r2), .own 0 r3.length], .agg [.lit (.int .i64 r4), .lit (.int .i64 r5), .own 1 r6.length]] ∧ H' = [.sl 3 1 r3.length false (ints .i64 r3), .sl 3 1 r6.length false (ints .i64 r6)]) := by
 refine ACalls.ofV Tryd.func37 rfl (by exact Nat.le_of_ble_eq_true rfl) ?_
 simp only [Tryd.ntmps37, env0, spec_DrawMeetTables.f] at h ⊢
 refine AWp.seq ?_
 refine AWp.region ?_
 refine L.M (M.al Y59) ?_
 refine L.M (M.al Y59) ?_
 refine AList.nil ?_
 refine AWp.seq ?_
 refine AWp.region ?_
 refine L.Y Y.mv ?_
 refine L.Y (Y.bd Tryd.underlying106 Y106 P106) ?_
 refine L.M M.bx ?_
 refine L.Y Y.asg ?_
 refine AList.nil ?_
 refine AWp.seq ?_
 refine AWp.region ?_
 refine L.Y Y.mv ?_
 replace h := Option.bind_eq_some_iff.1 h
 obtain ⟨⟨t204, t205, t206, t209, t210⟩, hc1, h⟩ := h
 dsimp only at h
 refine L.C (C.callE (l := false) [2] Tryd.func107 (spec_l1Cur_table.ac _ _ _ _ _ _ _ _ _ hc1) (H.c .nil) ?_)
 refine L.M (M.al Y59) ?_
 refine L.S (S.stb Y59) ?_
 refine AList.nil ?_
 refine AWp.seq ?_
 refine AWp.seq ?_
 refine W.kp [0, 2, 3, 4, 5] ?_
 refine AWp.region ?_
 refine L.S (S.ldN Tryd.underlying59 Y59) ?_
 replace h := Option.bind_eq_some_iff.1 h
 obtain ⟨t212, hc2, h⟩ := h
 refine L.C (C.callE (l := true) [] Tryd.func108 (spec_feGood.ac _ _ _ _ _ hc2) .nil ?_)
 refine L.Y Y.nt ?_
 refine L.Y Y.mv ?_
 refine L.Gc (fun hb => ?_) (fun hb => ?_)
 ·
  have hb3 := hb
  try simp only [hS, hE, ne_eq] at hb
  first | rw [if_pos hb3] at h | rw [if_neg (Bool.eq_false_iff.1 hb3)] at h | rw [if_pos hb] at h | rw [if_neg hb] at h | (simp only [hb, hT, reduceIte] at h) | skip
  refine L.Gn hb3 ?_
  refine L.Gn hb3 ?_
  refine L.Y (Y.pk (c := true) hb3) ?_
  refine AList.nil ?_
  rcases k with _ | k
  ·
   exact absurd h (by simp [spec_DrawMeetTables.j0])
  simp only [spec_DrawMeetTables.j0] at h
  refine W.cond (fun hb => ?_) (fun hb => ?_)
  rotate_left
  ·
   first | exact Bool.false_ne_true ((Eq.symm (by assumption)).trans hb) | exact Bool.false_ne_true (hb.symm.trans (by assumption)) | exact DD hb
  have hb4 := hb
  try (first | rw [if_pos hb4] at h | rw [if_neg (Bool.eq_false_iff.1 hb4)] at h | rw [if_pos hb] at h | rw [if_neg hb] at h | (simp only [hb, hT, reduceIte] at h) | skip)
  refine AWp.seq ?_
  refine W.kp [0, 2, 3, 4, 5, 18] ?_
  refine Dt.reg [false, false, true] [3, 4] (.t 0 (.y 1 (.one 2 (.last 3 (.one 4 .done))))) HM ?_
  refine Dt.T rfl wantN (D.ldN Tryd.underlying59 Y59) ?_
  refine Dt.Y rfl wantN Y.mv ?_
  refine Dt.O (g' := true) rfl wantN ?_
  replace h := Option.bind_eq_some_iff.1 h
  obtain ⟨⟨t216, t217, t218, t221, t222⟩, hc5, h⟩ := h
  dsimp only at h
  refine Ox.C false [2] Tryd.func107 (spec_l1Cur_table.ac _ _ _ _ _ _ _ _ _ hc5) (H.c .nil) ?_
  refine Dt.L rfl wantN ?_
  refine Op.S (S.stb Y59) ?_
  refine Du.L rfl wantN ?_
  refine Op.S (S.stb Y59) ?_
  refine Du.nil ?_
  simp only [Option.some.injEq, Prod.mk.injEq] at h
  obtain ⟨rfl, rfl, rfl, rfl, rfl, rfl⟩ := h
  refine AWp.ret ?_
  exact ⟨.inr rfl, _, _, _, Res.n2 (Res1.cl (p := 2) Tryd.underlying59 Y59) (Res1.cl (p := 3) Tryd.underlying59 Y59), ⟨rfl, rfl⟩, PartV.at [] [3, 5] base0 (H.c (H.c .nil))⟩
 ·
  have hb3 := hb
  try simp only [hS, hE, ne_eq] at hb
  first | rw [if_pos hb3] at h | rw [if_neg (Bool.eq_false_iff.1 hb3)] at h | rw [if_pos hb] at h | rw [if_neg hb] at h | (simp only [hb, hT, reduceIte] at h) | skip
  refine L.Gy hb3 Y.mv ?_
  replace h := Option.bind_eq_some_iff.1 h
  obtain ⟨⟨t213, t214, t215⟩, hc6, h⟩ := h
  dsimp only at h
  refine L.GC hb3 (C.callE (l := false) [2] Tryd.func89 (spec_l1Cur_one.ac _ _ _ _ _ _ _ hc6) (H.c .nil) ?_)
  refine L.Y (Y.pk (c := false) hb3) ?_
  refine AList.nil ?_
  rcases k with _ | k
  ·
   exact absurd h (by simp [spec_DrawMeetTables.j0])
  simp only [spec_DrawMeetTables.j0] at h
  refine W.cond (fun hb => ?_) (fun hb => ?_)
  ·
   have hb7 := hb
   try simp only [hS, hE, ne_eq] at hb
   first | rw [if_pos hb7] at h | rw [if_neg (Bool.eq_false_iff.1 hb7)] at h | rw [if_pos hb] at h | rw [if_neg hb] at h | (simp only [hb, hT, reduceIte] at h) | skip
   refine AWp.seq ?_
   refine W.kp [0, 2, 3, 4, 5, 18] ?_
   refine Dt.reg [false, false, true] [3, 4] (.t 0 (.y 1 (.one 2 (.last 3 (.one 4 .done))))) HM ?_
   refine Dt.T rfl wantN (D.ldN Tryd.underlying59 Y59) ?_
   refine Dt.Y rfl wantN Y.mv ?_
   refine Dt.O (g' := true) rfl wantN ?_
   replace h := Option.bind_eq_some_iff.1 h
   obtain ⟨⟨t216, t217, t218, t221, t222⟩, hc8, h⟩ := h
   dsimp only at h
   refine Ox.C false [2] Tryd.func107 (spec_l1Cur_table.ac _ _ _ _ _ _ _ _ _ hc8) (H.c .nil) ?_
   refine Dt.L rfl wantN ?_
   refine Op.S (S.stb Y59) ?_
   refine Du.L rfl wantN ?_
   refine Op.S (S.stb Y59) ?_
   refine Du.nil ?_
   simp only [Option.some.injEq, Prod.mk.injEq] at h
   obtain ⟨rfl, rfl, rfl, rfl, rfl, rfl⟩ := h
   refine AWp.ret ?_
   exact ⟨.inr rfl, _, _, _, Res.n2 (Res1.cl (p := 2) Tryd.underlying59 Y59) (Res1.cl (p := 3) Tryd.underlying59 Y59), ⟨rfl, rfl⟩, PartV.at [] [3, 5] base0 (H.c (H.c .nil))⟩
  ·
   have hb7 := hb
   try simp only [hS, hE, ne_eq] at hb
   first | rw [if_pos hb7] at h | rw [if_neg (Bool.eq_false_iff.1 hb7)] at h | rw [if_pos hb] at h | rw [if_neg hb] at h | (simp only [hb, hT, reduceIte] at h) | skip
   refine AWp.skip ?_
   refine AWp.seq ?_
   refine W.kp [0, 2, 3, 4, 5, 18] ?_
   refine AWp.region ?_
   refine L.Y (Y.fa (off := 0) Tryd.underlying59 Y3) ?_
   refine L.S (S.ld Tryd.underlying3) ?_
   refine L.Y (Y.fa (off := 1) Tryd.underlying59 Y3) ?_
   refine L.S (S.ld Tryd.underlying3) ?_
   refine L.Y (Y.bd Tryd.underlying59 Y59 P59) ?_
   refine L.M (M.al Y59) ?_
   refine L.S (S.stb Y59) ?_
   refine AList.nil ?_
   refine AWp.seq ?_
   refine AWp.seq ?_
   refine W.kp [0, 2, 3, 4, 5, 6, 18] ?_
   refine AWp.region ?_
   refine L.Y (Y.fa (off := 2) Tryd.underlying59 Y22) ?_
   refine L.S (S.ld Tryd.underlying22) ?_
   refine L.Y (Y.ln Tryd.underlying22) ?_
   refine L.Y Y.mv ?_
   refine AList.nil ?_
   refine AWp.block ?_
   refine AWp.loopI (fun kk e H => kk ≤ k ∧ ∃ (x29 : Int) (x30 : Int) (x202000 : Int) (x202001 : Int) (x203000 : Int) (x203001 : Int) (x204001 : Int) (x204002 : Int) (x212000 : Int) (x212001 : Int) (x212002 : List Int) (x224000 : Int) (x224001 : Int) (x224002 : List Int), e = [(2, .ptr 0 0), (3, .ptr 1 0), (4, .ptr 2 0), (5, .ptr 3 0), (6, .ptr 4 0), (29, .lit (.int .i64 x29)), (30, .lit (.int .i64 x30))] ∧ H = [.bx 59 [.lit (.int .i64 x202000), .lit (.int .i64 x202001), .lit (.slice none 0 0)], .bx 59 [.lit (.int .i64 x203000), .lit (.int .i64 x203001), .lit (.slice none 0 0)], .bx 106 [.row 1 l0.length false (ints .u8 l0), .lit (.int .i64 x204001), .lit (.int .u64 x204002)], .bx 59 [.lit (.int .i64 x212000), .lit (.int .i64 x212001), .own 5 x212002.length], .bx 59 [.lit (.int .i64 x224000), .lit (.int .i64 x224001), .own 6 x224002.length], .sl 3 1 x212002.length false (ints .i64 x212002), .sl 3 1 x224002.length false (ints .i64 x224002)] ∧ spec_DrawMeetTables.l0 kk x29 x30 l0 x204001 x204002 x212000 x212001 x212002 x224000 x224001 x224002 = some (r1, r2, r3, r4, r5, r6)) (k := k)
    ⟨_, _, ⟨Nat.le_refl _, _, _, _, _, _, _, _, _, _, _, _, _, _, _, rfl, rfl, h⟩, IsPart.at [(3, 1)] [0, 1, 2, 4, 5, 3, 6] base0 (H.c (H.c (H.c (H.c (H.c (H.c (H.c .nil))))))) (E.c (E.c (E.c (E.c (E.c (E.c (E.c .nil)))))))⟩ ?_
   clear h
   rintro k9 e H ⟨hk10, x29, x30, x202000, x202001, x203000, x203001, x204001, x204002, x212000, x212001, x212002, x224000, x224001, x224002, rfl, rfl, h⟩
   cases k9 with
   | zero => exact absurd h (by simp [spec_DrawMeetTables.l0])
   | succ k9 =>
   simp only [spec_DrawMeetTables.l0] at h
   refine AWp.seq ?_
   refine AWp.region ?_
   refine L.Y Y.bin ?_
   refine AList.nil ?_
   refine AWp.seq ?_
   refine W.cond (fun hb => ?_) (fun hb => ?_)
   ·
    have hb11 := hb
    try simp only [hS, hE, ne_eq] at hb
    first | rw [if_pos hb11] at h | rw [if_neg (Bool.eq_false_iff.1 hb11)] at h | rw [if_pos hb] at h | rw [if_neg hb] at h | (simp only [hb, hT, reduceIte] at h) | skip
    repeat (first | (rw [iN] at h; obtain ⟨_, h⟩ := h) | (rw [iP] at h; obtain ⟨_, h⟩ := h) | (simp only [bS] at h))
    refine AWp.skip ?_
    refine AWp.seq ?_
    refine AWp.block ?_
    refine Dt.reg [false, false, true] [8, 10] (.y 0 (.t 1 (.y 2 (.y 3 (.t 4 (.y 5 (.one 6 (.one 7 (.last 8 (.y 9 (.one 10 .done))))))))))) HM ?_
    refine Dt.Y rfl wantN (Y.fa (off := 2) Tryd.underlying59 Y22) ?_
    refine Dt.T rfl wantN (D.ld Tryd.underlying22) ?_
    refine Dt.Y rfl wantN Y.mv ?_
    refine Dt.Y rfl wantN (Y.fa (off := 1) Tryd.underlying59 Y3) ?_
    refine Dt.T rfl wantN (D.ld Tryd.underlying3) ?_
    refine Dt.Y rfl wantN Y.bin ?_
    refine Dt.O (g' := true) rfl wantN ?_
    replace h := Option.bind_eq_some_iff.1 h
    obtain ⟨⟨t224, t225, t226⟩, hc12, h⟩ := h
    dsimp only at h
    repeat (first | (rw [iN] at h; obtain ⟨_, h⟩ := h) | (rw [iP] at h; obtain ⟨_, h⟩ := h) | (simp only [bS] at h))
    refine Ox.C false [2] Tryd.func94 (spec_l1Cur_pick.ac _ _ _ _ _ _ _ hc12) (H.c .nil) ?_
    refine Dt.O (g' := false) rfl wantN ?_
    refine Ox.M (M.bs Tryd.underlying22 Y3) ?_
    refine Dt.L rfl wantN ?_
    refine Op.S (S.ap (nn' := false) Tryd.underlying22 Y3) ?_
    refine Du.Y rfl wantN (Y.fa (off := 2) Tryd.underlying59 Y22) ?_
    refine Du.L rfl wantN ?_
    refine Op.S (S.stb Y22) ?_
    refine Du.nil ?_
    refine W.kp [2, 3, 4, 5, 6, 29, 30, 31] ?_
    refine AWp.region ?_
    refine L.Y Y.bin ?_
    refine L.Y Y.mv ?_
    refine AList.nil ?_
    exact ⟨k9, by omega, _, _, ⟨by omega, _, _, _, _, _, _, _, _, _, _, _, _, _, _, rfl, rfl, h⟩, IsPart.at [] [0, 1, 2, 3, 4, 5, 6] base0 (H.c (H.c (H.c (H.c (H.c (H.c (H.c .nil))))))) (E.c (E.c (E.c (E.c (E.c (E.c (E.c .nil)))))))⟩
   ·
    have hb11 := hb
    try simp only [hS, hE, ne_eq] at hb
    first | rw [if_pos hb11] at h | rw [if_neg (Bool.eq_false_iff.1 hb11)] at h | rw [if_pos hb] at h | rw [if_neg hb] at h | (simp only [hb, hT, reduceIte] at h) | skip
    refine AWp.exit ?_
    refine AWp.seq ?_
    apply AWp.joinX
    ·
     refine Dt.reg [] [2, 3] (.t 0 (.mix 1 (.last 2 (.one 3 .done)) 2 (.ld 1 (.one 3 .done)))) HM ?_
     refine Dt.T rfl wantN (D.ldN Tryd.underlying59 Y59) ?_
     refine Dt.X (g1 := false) rfl rfl wantN wantN ?_ ?_
     ·
      skip
      refine Ox.U (D.ldN Tryd.underlying59 Y59) ?_
      refine Dt.L rfl wantN ?_
      refine Op.S (S.stb Y59) ?_
      refine Du.L rfl wantN ?_
      refine Op.S (S.stb Y59) ?_
      refine Du.nil ?_
      exact ⟨rfl, .inl ⟨rfl, rfl⟩⟩
     ·
      skip
      refine Op.S (S.stb Y59) ?_
      refine Du.D rfl wantN (D.ldN Tryd.underlying59 Y59) ?_
      refine Du.L rfl wantN ?_
      refine Op.S (S.stb Y59) ?_
      refine Du.nil ?_
      exact ⟨rfl, .inr (IsPart.at [] [0, 1, 2, 3, 4, 5, 6] base0 (H.c (H.c (H.c (H.c (H.c (H.c (H.c .nil))))))) (by repeat' first | exact .nil | refine E.c ?_))⟩
    ·
     skip
     simp only [Option.some.injEq, Prod.mk.injEq] at h
     obtain ⟨rfl, rfl, rfl, rfl, rfl, rfl⟩ := h
     refine AWp.ret ?_
     exact ⟨.inr rfl, _, _, _, Res.n2 (Res1.cl (p := 2) Tryd.underlying59 Y59) (Res1.cl (p := 3) Tryd.underlying59 Y59), ⟨rfl, rfl⟩, PartV.at [] [5, 6] base0 (H.c (H.c .nil))⟩

/-! ### impl_within: function 116 -/
def impl_within.f (a0 : Int) (a1 : Int) (a2 : Int) : Option (Bool) := if a0 ≥ a1 then (some (decide (a0 ≤ a2))) else (some false)
set_option maxRecDepth 100000 in
set_option maxHeartbeats 20000000 in
theorem impl_within.ac (a0 : Int) (a1 : Int) (a2 : Int) (r : Bool) (h : impl_within.f a0 a1 a2 = some r) :
  ACalls Tryd.prog 116 [.lit (.int .i64 a0), .lit (.int .i64 a1), .lit (.int .i64 a2)] [] (fun v H' => v = .lit (.bool r) ∧ H' = []) := by
 refine ACalls.ofP [6] Tryd.func116 rfl (by exact Nat.le_of_ble_eq_true rfl) rfl (by decide) ?_
 simp only [Tryd.ntmps116, env0, impl_within.f] at h ⊢
 refine AWp.seq ?_
 refine AWp.region ?_
 refine L.Y Y.asg ?_
 refine AList.nil ?_
 refine AWp.seq ?_
 refine AWp.region ?_
 refine L.Y Y.mv ?_
 refine L.Y Y.mv ?_
 refine L.Y Y.bin ?_
 refine L.Y Y.mv ?_
 refine L.Gc (fun hb => ?_) (fun hb => ?_)
 ·
  have hb1 := hb
  try simp only [hS, hE, ne_eq] at hb
  first | rw [if_pos hb1] at h | rw [if_neg (Bool.eq_false_iff.1 hb1)] at h | rw [if_pos hb] at h | rw [if_neg hb] at h | (simp only [hb, hT, reduceIte] at h) | skip
  refine L.Gy hb1 Y.mv ?_
  refine L.Gy hb1 Y.mv ?_
  refine L.Gy hb1 Y.bin ?_
  refine L.Y (Y.pk (c := true) hb1) ?_
  refine L.Y Y.asg ?_
  refine AList.nil ?_
  obtain rfl := Option.some.inj h
  refine AWp.ret ?_
  exact ⟨.inr rfl, [(6, _)], _, ⟨rfl, rfl⟩, IsPart.at [] [] base0 .nil (E.c .nil)⟩
 ·
  have hb1 := hb
  try simp only [hS, hE, ne_eq] at hb
  first | rw [if_pos hb1] at h | rw [if_neg (Bool.eq_false_iff.1 hb1)] at h | rw [if_pos hb] at h | rw [if_neg hb] at h | (simp only [hb, hT, reduceIte] at h) | skip
  refine L.Gn hb1 ?_
  refine L.Gn hb1 ?_
  refine L.Gn hb1 ?_
  refine L.Y (Y.pk (c := false) hb1) ?_
  refine L.Y Y.asg ?_
  refine AList.nil ?_
  obtain rfl := Option.some.inj h
  refine AWp.ret ?_
  exact ⟨.inr rfl, [(6, _)], _, ⟨rfl, rfl⟩, IsPart.at [] [] base0 .nil (E.c .nil)⟩

/-! ### impl_allWithin: function 117 -/
def impl_allWithin.l0 : Nat → Int → Int → List Int → Int → Int → Option (Bool)
 | 0, _, _, _, _, _ => none
 | k + 1, x1, x2, x9, x10, x11 => if x11 < x10 then (if 0 ≤ x11 then (if x11 < (x9.length : Int) then ((impl_within.f (rd x9 x11) x1 x2).bind fun t231 => (if t231 = true then (impl_allWithin.l0 k x1 x2 x9 x10 (wrap64 (x11 + 1))) else (some false))) else (none)) else (none)) else (some true)
def impl_allWithin.f (k : Nat) (l0 : List Int) (a1 : Int) (a2 : Int) : Option (Bool) := impl_allWithin.l0 k a1 a2 l0 (l0.length : Int) 0
set_option maxRecDepth 100000 in
set_option maxHeartbeats 20000000 in
theorem impl_allWithin.ac (k : Nat) (l0 : List Int) (a1 : Int) (a2 : Int) (r : Bool) (h : impl_allWithin.f k l0 a1 a2 = some r) :
  ACalls Tryd.prog 117 [.row 1 l0.length false (ints .i64 l0), .lit (.int .i64 a1), .lit (.int .i64 a2)] [] (fun v H' => v = .lit (.bool r) ∧ H' = []) := by
 refine ACalls.ofP [6] Tryd.func117 rfl (by exact Nat.le_of_ble_eq_true rfl) rfl (by decide) ?_
 simp only [Tryd.ntmps117, env0, impl_allWithin.f] at h ⊢
 refine AWp.seq ?_
 refine AWp.region ?_
 refine L.Y Y.asg ?_
 refine AList.nil ?_
 refine AWp.seq ?_
 refine AWp.seq ?_
 refine AWp.region ?_
 refine L.Y Y.mv ?_
 refine L.Y (Y.ln Tryd.underlying22) ?_
 refine L.Y Y.mv ?_
 refine AList.nil ?_
 refine AWp.block ?_
 refine AWp.loopI (fun kk e H => kk ≤ k ∧ ∃ (x1 : Int) (x2 : Int) (x10 : Int) (x11 : Int), e = [(1, .lit (.int .i64 x1)), (2, .lit (.int .i64 x2)), (9, .row 1 l0.length false (ints .i64 l0)), (10, .lit (.int .i64 x10)), (11, .lit (.int .i64 x11))] ∧ H = [] ∧ impl_allWithin.l0 kk x1 x2 l0 x10 x11 = some r) (k := k)
  ⟨_, _, ⟨Nat.le_refl _, _, _, _, _, rfl, rfl, h⟩, IsPart.at [] [] base0 .nil (E.c (E.c (E.c (E.c (E.c .nil)))))⟩ ?_
 clear h
 rintro k1 e H ⟨hk2, x1, x2, x10, x11, rfl, rfl, h⟩
 cases k1 with
 | zero => exact absurd h (by simp [impl_allWithin.l0])
 | succ k1 =>
 simp only [impl_allWithin.l0] at h
 refine AWp.seq ?_
 refine AWp.region ?_
 refine L.Y Y.bin ?_
 refine AList.nil ?_
 refine AWp.seq ?_
 refine W.cond (fun hb => ?_) (fun hb => ?_)
 ·
  have hb3 := hb
  try simp only [hS, hE, ne_eq] at hb
  first | rw [if_pos hb3] at h | rw [if_neg (Bool.eq_false_iff.1 hb3)] at h | rw [if_pos hb] at h | rw [if_neg hb] at h | (simp only [hb, hT, reduceIte] at h) | skip
  repeat (first | (rw [iN] at h; obtain ⟨_, h⟩ := h) | (rw [iP] at h; obtain ⟨_, h⟩ := h) | (simp only [bS] at h))
  refine AWp.skip ?_
  refine AWp.seq ?_
  refine AWp.block ?_
  refine AWp.seq ?_
  refine AWp.region ?_
  refine L.Y (Y.ixr Tryd.underlying22 Y3) ?_
  refine L.S (S.ld Tryd.underlying3) ?_
  refine L.Y Y.asg ?_
  refine AList.nil ?_
  refine AWp.seq ?_
  refine AWp.region ?_
  refine L.Y Y.mv ?_
  refine L.Y Y.mv ?_
  refine L.Y Y.mv ?_
  replace h := Option.bind_eq_some_iff.1 h
  obtain ⟨t231, hc4, h⟩ := h
  refine L.C (C.callE (l := true) [] Tryd.func116 (impl_within.ac _ _ _ _ hc4) .nil ?_)
  refine L.Y Y.nt ?_
  refine AList.nil ?_
  refine W.cond (fun hb => ?_) (fun hb => ?_)
  ·
   have hb5 := hb
   try simp only [hS, hE, ne_eq] at hb
   first | rw [if_pos hb5] at h | rw [if_neg (Bool.eq_false_iff.1 hb5)] at h | rw [if_pos hb] at h | rw [if_neg hb] at h | (simp only [hb, hT, reduceIte] at h) | skip
   refine AWp.seq ?_
   refine W.kp [1, 2, 8, 9, 10, 11, 12, 19] ?_
   refine AWp.region ?_
   refine L.Y Y.asg ?_
   refine AList.nil ?_
   obtain rfl := Option.some.inj h
   refine AWp.ret ?_
   exact ⟨.inr rfl, [(6, _)], _, ⟨rfl, rfl⟩, IsPart.at [] [] base0 .nil (E.c .nil)⟩
  ·
   have hb5 := hb
   try simp only [hS, hE, ne_eq] at hb
   first | rw [if_pos hb5] at h | rw [if_neg (Bool.eq_false_iff.1 hb5)] at h | rw [if_pos hb] at h | rw [if_neg hb] at h | (simp only [hb, hT, reduceIte] at h) | skip
   refine AWp.skip ?_
   refine W.kp [1, 2, 8, 9, 10, 11, 12, 19] ?_
   refine AWp.region ?_
   refine L.Y Y.bin ?_
   refine L.Y Y.mv ?_
   refine AList.nil ?_
   exact ⟨k1, by omega, _, _, ⟨by omega, _, _, _, _, rfl, rfl, h⟩, IsPart.at [] [] base0 .nil (E.c (E.c (E.c (E.c (E.c .nil)))))⟩
 ·
  have hb3 := hb
  try simp only [hS, hE, ne_eq] at hb
  first | rw [if_pos hb3] at h | rw [if_neg (Bool.eq_false_iff.1 hb3)] at h | rw [if_pos hb] at h | rw [if_neg hb] at h | (simp only [hb, hT, reduceIte] at h) | skip
  refine AWp.exit ?_
  refine AWp.seq ?_
  refine AWp.region ?_
  refine L.Y Y.asg ?_
  refine AList.nil ?_
  obtain rfl := Option.some.inj h
  refine AWp.ret ?_
  exact ⟨.inr rfl, [(6, _)], _, ⟨rfl, rfl⟩, IsPart.at [] [] base0 .nil (E.c .nil)⟩

/-! ### impl_IsTable: function 45 -/
def impl_IsTable.f (k : Nat) (a0_0 : Int) (a0_1 : Int) (l0_2 : List Int) : Option (Bool) := (impl_within.f a0_0 1 6).bind fun t233 => (if t233 = true then ((impl_within.f a0_1 1 6).bind fun t234 => (if t234 = true then (if (l0_2.length : Int) = a0_0 then (if 0 ≤ a0_1 then ((impl_allWithin.f k l0_2 0 (wrap64 ((shl .i64 1 a0_1) - 1))).bind fun t235 => (some t235)) else (none)) else (some false)) else (some false))) else (some false))
set_option maxRecDepth 100000 in
set_option maxHeartbeats 20000000 in
theorem impl_IsTable.ac (k : Nat) (a0_0 : Int) (a0_1 : Int) (l0_2 : List Int) (r : Bool) (h : impl_IsTable.f k a0_0 a0_1 l0_2 = some r) :
  ACalls Tryd.prog 45 [.agg [.lit (.int .i64 a0_0), .lit (.int .i64 a0_1), .row 1 l0_2.length false (ints .i64 l0_2)]] [] (fun v H' => v = .lit (.bool r) ∧ H' = []) := by
 refine ACalls.ofP [2] Tryd.func45 rfl (by exact Nat.le_of_ble_eq_true rfl) rfl (by decide) ?_
 simp only [Tryd.ntmps45, env0, impl_IsTable.f] at h ⊢
 refine AWp.seq ?_
 refine AWp.region ?_
 refine L.M M.bx ?_
 refine L.Y Y.asg ?_
 refine AList.nil ?_
 refine AWp.seq ?_
 refine Dt.reg [] [] (.y 0 (.t 1 (.one 2 (.y 3 (.y 4 (.t 5 (.one 6 (.y 7 (.y 8 (.y 9 (.t 10 (.y 11 (.y 12 (.t 13 (.y 14 (.y 15 (.y 16 (.y 17 (.t 18 (.y 19 (.t 20 (.y 21 (.y 22 (.one 23 (.y 24 (.y 25 .done)))))))))))))))))))))))))) HM ?_
 refine Dt.Y rfl wantN (Y.fa (off := 0) Tryd.underlying59 Y3) ?_
 refine Dt.T rfl wantN (D.ld Tryd.underlying3) ?_
 refine Dt.O (g' := false) rfl wantN ?_
 replace h := Option.bind_eq_some_iff.1 h
 obtain ⟨t233, hc1, h⟩ := h
 refine Ox.C true [] Tryd.func116 (impl_within.ac _ _ _ _ hc1) .nil ?_
 refine Dt.Y rfl wantN Y.mv ?_
 refine Dt.F 6 (fun hb => ?_) (fun hb => ?_)
 ·
  have hb2 := hb
  try simp only [hS, hE, ne_eq] at hb
  first | rw [if_pos hb2] at h | rw [if_neg (Bool.eq_false_iff.1 hb2)] at h | rw [if_pos hb] at h | rw [if_neg hb] at h | (simp only [hb, hT, reduceIte] at h) | skip
  refine Dt.Y rfl (wantY hb2) (Y.fa (off := 1) Tryd.underlying59 Y3) ?_
  refine Dt.T rfl (wantY hb2) (D.ld Tryd.underlying3) ?_
  refine Dt.O (g' := false) rfl (wantY hb2) ?_
  replace h := Option.bind_eq_some_iff.1 h
  obtain ⟨t234, hc3, h⟩ := h
  refine Ox.C true [] Tryd.func116 (impl_within.ac _ _ _ _ hc3) .nil ?_
  refine Dt.Y rfl wantN (Y.pk (c := true) hb2) ?_
  refine Dt.Y rfl wantN Y.mv ?_
  refine Dt.F 11 (fun hb => ?_) (fun hb => ?_)
  ·
   have hb4 := hb
   try simp only [hS, hE, ne_eq] at hb
   first | rw [if_pos hb4] at h | rw [if_neg (Bool.eq_false_iff.1 hb4)] at h | rw [if_pos hb] at h | rw [if_neg hb] at h | (simp only [hb, hT, reduceIte] at h) | skip
   refine Dt.Y rfl (wantY hb4) (Y.fa (off := 2) Tryd.underlying59 Y22) ?_
   refine Dt.T rfl (wantY hb4) (D.ld Tryd.underlying22) ?_
   refine Dt.Y rfl (wantY hb4) (Y.ln Tryd.underlying22) ?_
   refine Dt.Y rfl (wantY hb4) (Y.fa (off := 0) Tryd.underlying59 Y3) ?_
   refine Dt.T rfl (wantY hb4) (D.ld Tryd.underlying3) ?_
   refine Dt.Y rfl (wantY hb4) Y.bin ?_
   refine Dt.Y rfl wantN (Y.pk (c := true) hb4) ?_
   refine Dt.Y rfl wantN Y.mv ?_
   refine Dt.F 19 (fun hb => ?_) (fun hb => ?_)
   ·
    have hb5 := hb
    try simp only [hS, hE, ne_eq] at hb
    first | rw [if_pos hb5] at h | rw [if_neg (Bool.eq_false_iff.1 hb5)] at h | rw [if_pos hb] at h | rw [if_neg hb] at h | (simp only [hb, hT, reduceIte] at h) | skip
    repeat (first | (rw [iN] at h; obtain ⟨_, h⟩ := h) | (rw [iP] at h; obtain ⟨_, h⟩ := h) | (simp only [bS] at h))
    refine Dt.Y rfl (wantY hb5) (Y.fa (off := 2) Tryd.underlying59 Y22) ?_
    refine Dt.T rfl (wantY hb5) (D.ld Tryd.underlying22) ?_
    refine Dt.Y rfl (wantY hb5) (Y.fa (off := 1) Tryd.underlying59 Y3) ?_
    refine Dt.T rfl (wantY hb5) (D.ld Tryd.underlying3) ?_
    refine Dt.Y rfl (wantY hb5) Y.bin ?_
    refine Dt.Y rfl (wantY hb5) Y.bin ?_
    refine Dt.O (g' := false) rfl (wantY hb5) ?_
    replace h := Option.bind_eq_some_iff.1 h
    obtain ⟨t235, hc6, h⟩ := h
    refine Ox.C true [] Tryd.func117 (impl_allWithin.ac _ _ _ _ _ hc6) .nil ?_
    refine Dt.Y rfl wantN (Y.pk (c := true) hb5) ?_
    refine Dt.Y rfl wantN Y.asg ?_
    refine Dt.nil ?_
    obtain rfl := Option.some.inj h
    refine AWp.ret ?_
    exact ⟨.inr rfl, [(2, _)], _, ⟨rfl, rfl⟩, IsPart.at [] [] base0 .nil (E.c .nil)⟩
   ·
    have hb5 := hb
    try simp only [hS, hE, ne_eq] at hb
    first | rw [if_pos hb5] at h | rw [if_neg (Bool.eq_false_iff.1 hb5)] at h | rw [if_pos hb] at h | rw [if_neg hb] at h | (simp only [hb, hT, reduceIte] at h) | skip
    refine Dt.No rfl (wantZ hb5) ?_
    refine Dt.Nt rfl (wantZ hb5) ?_
    refine Dt.No rfl (wantZ hb5) ?_
    refine Dt.Nt rfl (wantZ hb5) ?_
    refine Dt.No rfl (wantZ hb5) ?_
    refine Dt.No rfl (wantZ hb5) ?_
    refine Dt.Po rfl (wantZ hb5) ?_
    refine Dt.Y rfl wantN (Y.pk (c := false) hb5) ?_
    refine Dt.Y rfl wantN Y.asg ?_
    refine Dt.nil ?_
    obtain rfl := Option.some.inj h
    refine AWp.ret ?_
    exact ⟨.inr rfl, [(2, _)], _, ⟨rfl, rfl⟩, IsPart.at [] [] base0 .nil (E.c .nil)⟩
  ·
   have hb4 := hb
   try simp only [hS, hE, ne_eq] at hb
   first | rw [if_pos hb4] at h | rw [if_neg (Bool.eq_false_iff.1 hb4)] at h | rw [if_pos hb] at h | rw [if_neg hb] at h | (simp only [hb, hT, reduceIte] at h) | skip
   refine Dt.No rfl (wantZ hb4) ?_
   refine Dt.Nt rfl (wantZ hb4) ?_
   refine Dt.No rfl (wantZ hb4) ?_
   refine Dt.No rfl (wantZ hb4) ?_
   refine Dt.Nt rfl (wantZ hb4) ?_
   refine Dt.No rfl (wantZ hb4) ?_
   refine Dt.Y rfl wantN (Y.pk (c := false) hb4) ?_
   refine Dt.Y rfl wantN Y.mv ?_
   refine Dt.F 19 (fun hb => ?_) (fun hb => ?_)
   ·
    first | exact Bool.false_ne_true ((Eq.symm (by assumption)).trans hb) | exact Bool.false_ne_true (hb.symm.trans (by assumption)) | exact DD hb
   have hb7 := hb
   refine Dt.No rfl (wantZ hb7) ?_
   refine Dt.Nt rfl (wantZ hb7) ?_
   refine Dt.No rfl (wantZ hb7) ?_
   refine Dt.Nt rfl (wantZ hb7) ?_
   refine Dt.No rfl (wantZ hb7) ?_
   refine Dt.No rfl (wantZ hb7) ?_
   refine Dt.Po rfl (wantZ hb7) ?_
   refine Dt.Y rfl wantN (Y.pk (c := false) hb7) ?_
   refine Dt.Y rfl wantN Y.asg ?_
   refine Dt.nil ?_
   obtain rfl := Option.some.inj h
   refine AWp.ret ?_
   exact ⟨.inr rfl, [(2, _)], _, ⟨rfl, rfl⟩, IsPart.at [] [] base0 .nil (E.c .nil)⟩
 ·
  have hb2 := hb
  try simp only [hS, hE, ne_eq] at hb
  first | rw [if_pos hb2] at h | rw [if_neg (Bool.eq_false_iff.1 hb2)] at h | rw [if_pos hb] at h | rw [if_neg hb] at h | (simp only [hb, hT, reduceIte] at h) | skip
  refine Dt.No rfl (wantZ hb2) ?_
  refine Dt.Nt rfl (wantZ hb2) ?_
  refine Dt.Po rfl (wantZ hb2) ?_
  refine Dt.Y rfl wantN (Y.pk (c := false) hb2) ?_
  refine Dt.Y rfl wantN Y.mv ?_
  refine Dt.F 11 (fun hb => ?_) (fun hb => ?_)
  ·
   first | exact Bool.false_ne_true ((Eq.symm (by assumption)).trans hb) | exact Bool.false_ne_true (hb.symm.trans (by assumption)) | exact DD hb
  have hb8 := hb
  refine Dt.No rfl (wantZ hb8) ?_
  refine Dt.Nt rfl (wantZ hb8) ?_
  refine Dt.No rfl (wantZ hb8) ?_
  refine Dt.No rfl (wantZ hb8) ?_
  refine Dt.Nt rfl (wantZ hb8) ?_
  refine Dt.No rfl (wantZ hb8) ?_
  refine Dt.Y rfl wantN (Y.pk (c := false) hb8) ?_
  refine Dt.Y rfl wantN Y.mv ?_
  refine Dt.F 19 (fun hb => ?_) (fun hb => ?_)
  ·
   first | exact Bool.false_ne_true ((Eq.symm (by assumption)).trans hb) | exact Bool.false_ne_true (hb.symm.trans (by assumption)) | exact DD hb
  have hb9 := hb
  refine Dt.No rfl (wantZ hb9) ?_
  refine Dt.Nt rfl (wantZ hb9) ?_
  refine Dt.No rfl (wantZ hb9) ?_
  refine Dt.Nt rfl (wantZ hb9) ?_
  refine Dt.No rfl (wantZ hb9) ?_
  refine Dt.No rfl (wantZ hb9) ?_
  refine Dt.Po rfl (wantZ hb9) ?_
  refine Dt.Y rfl wantN (Y.pk (c := false) hb9) ?_
  refine Dt.Y rfl wantN Y.asg ?_
  refine Dt.nil ?_
  obtain rfl := Option.some.inj h
  refine AWp.ret ?_
  exact ⟨.inr rfl, [(2, _)], _, ⟨rfl, rfl⟩, IsPart.at [] [] base0 .nil (E.c .nil)⟩

end Go.Proofs.YtakabmokpknknaaDoor.PFnTablesTurned
