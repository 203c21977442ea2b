-- Written by a program of this session's (wip/myprint2): the functions by the kit's print, the walks by awgen.py. Lean checks it.
import Derived.Test.YtakabmokpknknaaPFnBiordersHaveScalesx0
namespace Go.Proofs.Ytakabmokpknknaa.PFnBiordersHaveScales
open Go.RowKit Go.Proofs.YtakabmokpknknaaW.PrintWords Go.Proofs.YtakabmokpknknaaW.PrintLast Go.Proofs.YtakabmokpknknaaW.PrintMore Go.Proofs.YtakabmokpknknaaM Go.Proofs.YtakabmokpknknaaA
attribute [local go_sem] max2_int min2_int max_two min_two max_three min_three max_four min_four   -- for this text's walks alone
set_option linter.unusedVariables false
set_option linter.unusedSimpArgs false

/-! ### spec_l1In: function 55 -/
def spec_l1In.f (a0 : Int) (a1 : Int) (a2 : Int) : Option (Bool) := if a0 ≥ a1 then (some (decide (a0 ≤ a2))) else (some false)
set_option maxRecDepth 100000 in
set_option maxHeartbeats 20000000 in
theorem spec_l1In.ac (a0 : Int) (a1 : Int) (a2 : Int) (r : Bool) (h : spec_l1In.f a0 a1 a2 = some r) :
  ACalls Try.prog 55 [.lit (.int .i64 a0), .lit (.int .i64 a1), .lit (.int .i64 a2)] [] (fun v H' => v = .lit (.bool r) ∧ H' = []) := by
 refine ACalls.ofP [6] Try.func55 rfl (by exact Nat.le_of_ble_eq_true rfl) rfl (by decide) ?_
 simp only [Try.ntmps55, env0, spec_l1In.f] at h ⊢
 refine AWp.seq ?_
 refine AWp.region ?_
 refine L.Y Y.asg ?_
 refine AList.nil ?_
 refine AWp.seq ?_
 refine AWp.region ?_
 refine L.Y Y.mv ?_
 refine L.Y Y.mv ?_
 refine L.Y Y.bin ?_
 refine L.Y Y.mv ?_
 refine L.Gc (fun hb => ?_) (fun hb => ?_)
 ·
  have hb1 := hb
  try simp only [hS, hE, ne_eq] at hb
  first | rw [if_pos hb1] at h | rw [if_neg (Bool.eq_false_iff.1 hb1)] at h | rw [if_pos hb] at h | rw [if_neg hb] at h | (simp only [hb, hT, reduceIte] at h) | skip
  refine L.Gy hb1 Y.mv ?_
  refine L.Gy hb1 Y.mv ?_
  refine L.Gy hb1 Y.bin ?_
  refine L.Y (Y.pk (c := true) hb1) ?_
  refine L.Y Y.asg ?_
  refine AList.nil ?_
  obtain rfl := Option.some.inj h
  refine AWp.ret ?_
  exact ⟨.inr rfl, [(6, _)], _, ⟨rfl, rfl⟩, IsPart.at [] [] base0 .nil (E.c .nil)⟩
 ·
  have hb1 := hb
  try simp only [hS, hE, ne_eq] at hb
  first | rw [if_pos hb1] at h | rw [if_neg (Bool.eq_false_iff.1 hb1)] at h | rw [if_pos hb] at h | rw [if_neg hb] at h | (simp only [hb, hT, reduceIte] at h) | skip
  refine L.Gn hb1 ?_
  refine L.Gn hb1 ?_
  refine L.Gn hb1 ?_
  refine L.Y (Y.pk (c := false) hb1) ?_
  refine L.Y Y.asg ?_
  refine AList.nil ?_
  obtain rfl := Option.some.inj h
  refine AWp.ret ?_
  exact ⟨.inr rfl, [(6, _)], _, ⟨rfl, rfl⟩, IsPart.at [] [] base0 .nil (E.c .nil)⟩

/-! ### spec_l1All: function 56 -/
def spec_l1All.l0 : Nat → Int → Int → List Int → Int → Int → Option (Bool)
 | 0, _, _, _, _, _ => none
 | k + 1, x1, x2, x9, x10, x11 => if x11 < x10 then (if 0 ≤ x11 then (if x11 < (x9.length : Int) then ((spec_l1In.f (rd x9 x11) x1 x2).bind fun t102 => (if t102 = true then (spec_l1All.l0 k x1 x2 x9 x10 (wrap64 (x11 + 1))) else (some false))) else (none)) else (none)) else (some true)
def spec_l1All.f (k : Nat) (l0 : List Int) (a1 : Int) (a2 : Int) : Option (Bool) := spec_l1All.l0 k a1 a2 l0 (l0.length : Int) 0
set_option maxRecDepth 100000 in
set_option maxHeartbeats 20000000 in
theorem spec_l1All.ac (k : Nat) (l0 : List Int) (a1 : Int) (a2 : Int) (r : Bool) (h : spec_l1All.f k l0 a1 a2 = some r) :
  ACalls Try.prog 56 [.row 1 l0.length false (ints .i64 l0), .lit (.int .i64 a1), .lit (.int .i64 a2)] [] (fun v H' => v = .lit (.bool r) ∧ H' = []) := by
 refine ACalls.ofP [6] Try.func56 rfl (by exact Nat.le_of_ble_eq_true rfl) rfl (by decide) ?_
 simp only [Try.ntmps56, env0, spec_l1All.f] at h ⊢
 refine AWp.seq ?_
 refine AWp.region ?_
 refine L.Y Y.asg ?_
 refine AList.nil ?_
 refine AWp.seq ?_
 refine AWp.seq ?_
 refine AWp.region ?_
 refine L.Y Y.mv ?_
 refine L.Y (Y.ln Try.underlying22) ?_
 refine L.Y Y.mv ?_
 refine AList.nil ?_
 refine AWp.block ?_
 refine AWp.loopI (fun kk e H => kk ≤ k ∧ ∃ (x1 : Int) (x2 : Int) (x10 : Int) (x11 : Int), e = [(1, .lit (.int .i64 x1)), (2, .lit (.int .i64 x2)), (9, .row 1 l0.length false (ints .i64 l0)), (10, .lit (.int .i64 x10)), (11, .lit (.int .i64 x11))] ∧ H = [] ∧ spec_l1All.l0 kk x1 x2 l0 x10 x11 = some r) (k := k)
  ⟨_, _, ⟨Nat.le_refl _, _, _, _, _, rfl, rfl, h⟩, IsPart.at [] [] base0 .nil (E.c (E.c (E.c (E.c (E.c .nil)))))⟩ ?_
 clear h
 rintro k1 e H ⟨hk2, x1, x2, x10, x11, rfl, rfl, h⟩
 cases k1 with
 | zero => exact absurd h (by simp [spec_l1All.l0])
 | succ k1 =>
 simp only [spec_l1All.l0] at h
 refine AWp.seq ?_
 refine AWp.region ?_
 refine L.Y Y.bin ?_
 refine AList.nil ?_
 refine AWp.seq ?_
 refine W.cond (fun hb => ?_) (fun hb => ?_)
 ·
  have hb3 := hb
  try simp only [hS, hE, ne_eq] at hb
  first | rw [if_pos hb3] at h | rw [if_neg (Bool.eq_false_iff.1 hb3)] at h | rw [if_pos hb] at h | rw [if_neg hb] at h | (simp only [hb, hT, reduceIte] at h) | skip
  repeat (first | (rw [iN] at h; obtain ⟨_, h⟩ := h) | (rw [iP] at h; obtain ⟨_, h⟩ := h) | (simp only [bS] at h))
  refine AWp.skip ?_
  refine AWp.seq ?_
  refine AWp.block ?_
  refine AWp.seq ?_
  refine AWp.region ?_
  refine L.Y (Y.ixr Try.underlying22 Y3) ?_
  refine L.S (S.ld Try.underlying3) ?_
  refine L.Y Y.asg ?_
  refine AList.nil ?_
  refine AWp.seq ?_
  refine AWp.region ?_
  refine L.Y Y.mv ?_
  refine L.Y Y.mv ?_
  refine L.Y Y.mv ?_
  replace h := Option.bind_eq_some_iff.1 h
  obtain ⟨t102, hc4, h⟩ := h
  refine L.C (C.callE (l := true) [] Try.func55 (spec_l1In.ac _ _ _ _ hc4) .nil ?_)
  refine L.Y Y.nt ?_
  refine AList.nil ?_
  refine W.cond (fun hb => ?_) (fun hb => ?_)
  ·
   have hb5 := hb
   try simp only [hS, hE, ne_eq] at hb
   first | rw [if_pos hb5] at h | rw [if_neg (Bool.eq_false_iff.1 hb5)] at h | rw [if_pos hb] at h | rw [if_neg hb] at h | (simp only [hb, hT, reduceIte] at h) | skip
   refine AWp.seq ?_
   refine W.kp [1, 2, 8, 9, 10, 11, 12, 19] ?_
   refine AWp.region ?_
   refine L.Y Y.asg ?_
   refine AList.nil ?_
   obtain rfl := Option.some.inj h
   refine AWp.ret ?_
   exact ⟨.inr rfl, [(6, _)], _, ⟨rfl, rfl⟩, IsPart.at [] [] base0 .nil (E.c .nil)⟩
  ·
   have hb5 := hb
   try simp only [hS, hE, ne_eq] at hb
   first | rw [if_pos hb5] at h | rw [if_neg (Bool.eq_false_iff.1 hb5)] at h | rw [if_pos hb] at h | rw [if_neg hb] at h | (simp only [hb, hT, reduceIte] at h) | skip
   refine AWp.skip ?_
   refine W.kp [1, 2, 8, 9, 10, 11, 12, 19] ?_
   refine AWp.region ?_
   refine L.Y Y.bin ?_
   refine L.Y Y.mv ?_
   refine AList.nil ?_
   exact ⟨k1, by omega, _, _, ⟨by omega, _, _, _, _, rfl, rfl, h⟩, IsPart.at [] [] base0 .nil (E.c (E.c (E.c (E.c (E.c .nil)))))⟩
 ·
  have hb3 := hb
  try simp only [hS, hE, ne_eq] at hb
  first | rw [if_pos hb3] at h | rw [if_neg (Bool.eq_false_iff.1 hb3)] at h | rw [if_pos hb] at h | rw [if_neg hb] at h | (simp only [hb, hT, reduceIte] at h) | skip
  refine AWp.exit ?_
  refine AWp.seq ?_
  refine AWp.region ?_
  refine L.Y Y.asg ?_
  refine AList.nil ?_
  obtain rfl := Option.some.inj h
  refine AWp.ret ?_
  exact ⟨.inr rfl, [(6, _)], _, ⟨rfl, rfl⟩, IsPart.at [] [] base0 .nil (E.c .nil)⟩

/-! ### spec_feGood: function 33 -/
def spec_feGood.f (k : Nat) (a0_0 : Int) (a0_1 : Int) (l0_2 : List Int) : Option (Bool) := (spec_l1In.f a0_0 1 6).bind fun t104 => (if t104 = true then ((spec_l1In.f a0_1 1 6).bind fun t105 => (if t105 = true then (if (l0_2.length : Int) = a0_0 then (if 0 ≤ a0_1 then ((spec_l1All.f k l0_2 0 (wrap64 ((shl .i64 1 a0_1) - 1))).bind fun t106 => (some t106)) else (none)) else (some false)) else (some false))) else (some false))
set_option maxRecDepth 100000 in
set_option maxHeartbeats 20000000 in
theorem spec_feGood.ac (k : Nat) (a0_0 : Int) (a0_1 : Int) (l0_2 : List Int) (r : Bool) (h : spec_feGood.f k a0_0 a0_1 l0_2 = some r) :
  ACalls Try.prog 33 [.agg [.lit (.int .i64 a0_0), .lit (.int .i64 a0_1), .row 1 l0_2.length false (ints .i64 l0_2)]] [] (fun v H' => v = .lit (.bool r) ∧ H' = []) := by
 refine ACalls.ofP [2] Try.func33 rfl (by exact Nat.le_of_ble_eq_true rfl) rfl (by decide) ?_
 simp only [Try.ntmps33, env0, spec_feGood.f] at h ⊢
 refine AWp.seq ?_
 refine AWp.region ?_
 refine L.M M.bx ?_
 refine L.Y Y.asg ?_
 refine AList.nil ?_
 refine AWp.seq ?_
 refine Dt.reg [] [] (.y 0 (.t 1 (.one 2 (.y 3 (.y 4 (.t 5 (.one 6 (.y 7 (.y 8 (.y 9 (.t 10 (.y 11 (.y 12 (.t 13 (.y 14 (.y 15 (.y 16 (.y 17 (.t 18 (.y 19 (.t 20 (.y 21 (.y 22 (.one 23 (.y 24 (.y 25 .done)))))))))))))))))))))))))) HM ?_
 refine Dt.Y rfl wantN (Y.fa (off := 0) Try.underlying26 Y3) ?_
 refine Dt.T rfl wantN (D.ld Try.underlying3) ?_
 refine Dt.O (g' := false) rfl wantN ?_
 replace h := Option.bind_eq_some_iff.1 h
 obtain ⟨t104, hc1, h⟩ := h
 refine Ox.C true [] Try.func55 (spec_l1In.ac _ _ _ _ hc1) .nil ?_
 refine Dt.Y rfl wantN Y.mv ?_
 refine Dt.F 6 (fun hb => ?_) (fun hb => ?_)
 ·
  have hb2 := hb
  try simp only [hS, hE, ne_eq] at hb
  first | rw [if_pos hb2] at h | rw [if_neg (Bool.eq_false_iff.1 hb2)] at h | rw [if_pos hb] at h | rw [if_neg hb] at h | (simp only [hb, hT, reduceIte] at h) | skip
  refine Dt.Y rfl (wantY hb2) (Y.fa (off := 1) Try.underlying26 Y3) ?_
  refine Dt.T rfl (wantY hb2) (D.ld Try.underlying3) ?_
  refine Dt.O (g' := false) rfl (wantY hb2) ?_
  replace h := Option.bind_eq_some_iff.1 h
  obtain ⟨t105, hc3, h⟩ := h
  refine Ox.C true [] Try.func55 (spec_l1In.ac _ _ _ _ hc3) .nil ?_
  refine Dt.Y rfl wantN (Y.pk (c := true) hb2) ?_
  refine Dt.Y rfl wantN Y.mv ?_
  refine Dt.F 11 (fun hb => ?_) (fun hb => ?_)
  ·
   have hb4 := hb
   try simp only [hS, hE, ne_eq] at hb
   first | rw [if_pos hb4] at h | rw [if_neg (Bool.eq_false_iff.1 hb4)] at h | rw [if_pos hb] at h | rw [if_neg hb] at h | (simp only [hb, hT, reduceIte] at h) | skip
   refine Dt.Y rfl (wantY hb4) (Y.fa (off := 2) Try.underlying26 Y22) ?_
   refine Dt.T rfl (wantY hb4) (D.ld Try.underlying22) ?_
   refine Dt.Y rfl (wantY hb4) (Y.ln Try.underlying22) ?_
   refine Dt.Y rfl (wantY hb4) (Y.fa (off := 0) Try.underlying26 Y3) ?_
   refine Dt.T rfl (wantY hb4) (D.ld Try.underlying3) ?_
   refine Dt.Y rfl (wantY hb4) Y.bin ?_
   refine Dt.Y rfl wantN (Y.pk (c := true) hb4) ?_
   refine Dt.Y rfl wantN Y.mv ?_
   refine Dt.F 19 (fun hb => ?_) (fun hb => ?_)
   ·
    have hb5 := hb
    try simp only [hS, hE, ne_eq] at hb
    first | rw [if_pos hb5] at h | rw [if_neg (Bool.eq_false_iff.1 hb5)] at h | rw [if_pos hb] at h | rw [if_neg hb] at h | (simp only [hb, hT, reduceIte] at h) | skip
    repeat (first | (rw [iN] at h; obtain ⟨_, h⟩ := h) | (rw [iP] at h; obtain ⟨_, h⟩ := h) | (simp only [bS] at h))
    refine Dt.Y rfl (wantY hb5) (Y.fa (off := 2) Try.underlying26 Y22) ?_
    refine Dt.T rfl (wantY hb5) (D.ld Try.underlying22) ?_
    refine Dt.Y rfl (wantY hb5) (Y.fa (off := 1) Try.underlying26 Y3) ?_
    refine Dt.T rfl (wantY hb5) (D.ld Try.underlying3) ?_
    refine Dt.Y rfl (wantY hb5) Y.bin ?_
    refine Dt.Y rfl (wantY hb5) Y.bin ?_
    refine Dt.O (g' := false) rfl (wantY hb5) ?_
    replace h := Option.bind_eq_some_iff.1 h
    obtain ⟨t106, hc6, h⟩ := h
    refine Ox.C true [] Try.func56 (spec_l1All.ac _ _ _ _ _ hc6) .nil ?_
    refine Dt.Y rfl wantN (Y.pk (c := true) hb5) ?_
    refine Dt.Y rfl wantN Y.asg ?_
    refine Dt.nil ?_
    obtain rfl := Option.some.inj h
    refine AWp.ret ?_
    exact ⟨.inr rfl, [(2, _)], _, ⟨rfl, rfl⟩, IsPart.at [] [] base0 .nil (E.c .nil)⟩
   ·
    have hb5 := hb
    try simp only [hS, hE, ne_eq] at hb
    first | rw [if_pos hb5] at h | rw [if_neg (Bool.eq_false_iff.1 hb5)] at h | rw [if_pos hb] at h | rw [if_neg hb] at h | (simp only [hb, hT, reduceIte] at h) | skip
    refine Dt.No rfl (wantZ hb5) ?_
    refine Dt.Nt rfl (wantZ hb5) ?_
    refine Dt.No rfl (wantZ hb5) ?_
    refine Dt.Nt rfl (wantZ hb5) ?_
    refine Dt.No rfl (wantZ hb5) ?_
    refine Dt.No rfl (wantZ hb5) ?_
    refine Dt.Po rfl (wantZ hb5) ?_
    refine Dt.Y rfl wantN (Y.pk (c := false) hb5) ?_
    refine Dt.Y rfl wantN Y.asg ?_
    refine Dt.nil ?_
    obtain rfl := Option.some.inj h
    refine AWp.ret ?_
    exact ⟨.inr rfl, [(2, _)], _, ⟨rfl, rfl⟩, IsPart.at [] [] base0 .nil (E.c .nil)⟩
  ·
   have hb4 := hb
   try simp only [hS, hE, ne_eq] at hb
   first | rw [if_pos hb4] at h | rw [if_neg (Bool.eq_false_iff.1 hb4)] at h | rw [if_pos hb] at h | rw [if_neg hb] at h | (simp only [hb, hT, reduceIte] at h) | skip
   refine Dt.No rfl (wantZ hb4) ?_
   refine Dt.Nt rfl (wantZ hb4) ?_
   refine Dt.No rfl (wantZ hb4) ?_
   refine Dt.No rfl (wantZ hb4) ?_
   refine Dt.Nt rfl (wantZ hb4) ?_
   refine Dt.No rfl (wantZ hb4) ?_
   refine Dt.Y rfl wantN (Y.pk (c := false) hb4) ?_
   refine Dt.Y rfl wantN Y.mv ?_
   refine Dt.F 19 (fun hb => ?_) (fun hb => ?_)
   ·
    first | exact Bool.false_ne_true ((Eq.symm (by assumption)).trans hb) | exact Bool.false_ne_true (hb.symm.trans (by assumption)) | exact DD hb
   have hb7 := hb
   refine Dt.No rfl (wantZ hb7) ?_
   refine Dt.Nt rfl (wantZ hb7) ?_
   refine Dt.No rfl (wantZ hb7) ?_
   refine Dt.Nt rfl (wantZ hb7) ?_
   refine Dt.No rfl (wantZ hb7) ?_
   refine Dt.No rfl (wantZ hb7) ?_
   refine Dt.Po rfl (wantZ hb7) ?_
   refine Dt.Y rfl wantN (Y.pk (c := false) hb7) ?_
   refine Dt.Y rfl wantN Y.asg ?_
   refine Dt.nil ?_
   obtain rfl := Option.some.inj h
   refine AWp.ret ?_
   exact ⟨.inr rfl, [(2, _)], _, ⟨rfl, rfl⟩, IsPart.at [] [] base0 .nil (E.c .nil)⟩
 ·
  have hb2 := hb
  try simp only [hS, hE, ne_eq] at hb
  first | rw [if_pos hb2] at h | rw [if_neg (Bool.eq_false_iff.1 hb2)] at h | rw [if_pos hb] at h | rw [if_neg hb] at h | (simp only [hb, hT, reduceIte] at h) | skip
  refine Dt.No rfl (wantZ hb2) ?_
  refine Dt.Nt rfl (wantZ hb2) ?_
  refine Dt.Po rfl (wantZ hb2) ?_
  refine Dt.Y rfl wantN (Y.pk (c := false) hb2) ?_
  refine Dt.Y rfl wantN Y.mv ?_
  refine Dt.F 11 (fun hb => ?_) (fun hb => ?_)
  ·
   first | exact Bool.false_ne_true ((Eq.symm (by assumption)).trans hb) | exact Bool.false_ne_true (hb.symm.trans (by assumption)) | exact DD hb
  have hb8 := hb
  refine Dt.No rfl (wantZ hb8) ?_
  refine Dt.Nt rfl (wantZ hb8) ?_
  refine Dt.No rfl (wantZ hb8) ?_
  refine Dt.No rfl (wantZ hb8) ?_
  refine Dt.Nt rfl (wantZ hb8) ?_
  refine Dt.No rfl (wantZ hb8) ?_
  refine Dt.Y rfl wantN (Y.pk (c := false) hb8) ?_
  refine Dt.Y rfl wantN Y.mv ?_
  refine Dt.F 19 (fun hb => ?_) (fun hb => ?_)
  ·
   first | exact Bool.false_ne_true ((Eq.symm (by assumption)).trans hb) | exact Bool.false_ne_true (hb.symm.trans (by assumption)) | exact DD hb
  have hb9 := hb
  refine Dt.No rfl (wantZ hb9) ?_
  refine Dt.Nt rfl (wantZ hb9) ?_
  refine Dt.No rfl (wantZ hb9) ?_
  refine Dt.Nt rfl (wantZ hb9) ?_
  refine Dt.No rfl (wantZ hb9) ?_
  refine Dt.No rfl (wantZ hb9) ?_
  refine Dt.Po rfl (wantZ hb9) ?_
  refine Dt.Y rfl wantN (Y.pk (c := false) hb9) ?_
  refine Dt.Y rfl wantN Y.asg ?_
  refine Dt.nil ?_
  obtain rfl := Option.some.inj h
  refine AWp.ret ?_
  exact ⟨.inr rfl, [(2, _)], _, ⟨rfl, rfl⟩, IsPart.at [] [] base0 .nil (E.c .nil)⟩

/-! ### spec_feBiorder: function 39 -/
mutual
def spec_feBiorder.l0 : Nat → List Int → Int → Int → Int → Int → List Int → Option (Bool)
 | 0, _, _, _, _, _, _ => none
 | k + 1, x8, x9, x10, x108000, x108001, x108002 => if x10 < x9 then (if 0 ≤ x10 then (if x10 < (x8.length : Int) then (spec_feBiorder.l1 k (rd x8 x10) x8 x9 x10 x108002 (x108002.length : Int) 0 x108000 x108001 x108002) else (none)) else (none)) else (some true)
def spec_feBiorder.l1 : Nat → Int → List Int → Int → Int → List Int → Int → Int → Int → Int → List Int → Option (Bool)
 | 0, _, _, _, _, _, _, _, _, _, _ => none
 | k + 1, x4, x8, x9, x10, x15, x16, x17, x108000, x108001, x108002 => if x17 < x16 then (if 0 ≤ x17 then (if x17 < (x15.length : Int) then (if (Go.bits .andNot .i64 x4 (rd x15 x17)) = 0 then (spec_feBiorder.l1 k x4 x8 x9 x10 x15 x16 (wrap64 (x17 + 1)) x108000 x108001 x108002) else (if (Go.bits .andNot .i64 (rd x15 x17) x4) = 0 then (spec_feBiorder.l1 k x4 x8 x9 x10 x15 x16 (wrap64 (x17 + 1)) x108000 x108001 x108002) else (some false))) else (none)) else (none)) else (spec_feBiorder.l0 k x8 x9 (wrap64 (x10 + 1)) x108000 x108001 x108002)
end
def spec_feBiorder.f (k : Nat) (a0_0 : Int) (a0_1 : Int) (l0_2 : List Int) : Option (Bool) := spec_feBiorder.l0 k l0_2 (l0_2.length : Int) 0 a0_0 a0_1 l0_2
set_option maxRecDepth 100000 in
set_option maxHeartbeats 20000000 in
theorem spec_feBiorder.ac (k : Nat) (a0_0 : Int) (a0_1 : Int) (l0_2 : List Int) (r : Bool) (h : spec_feBiorder.f k a0_0 a0_1 l0_2 = some r) :
  ACalls Try.prog 39 [.agg [.lit (.int .i64 a0_0), .lit (.int .i64 a0_1), .row 1 l0_2.length false (ints .i64 l0_2)]] [] (fun v H' => v = .lit (.bool r) ∧ H' = []) := by
 refine ACalls.ofP [2] Try.func39 rfl (by exact Nat.le_of_ble_eq_true rfl) rfl (by decide) ?_
 simp only [Try.ntmps39, env0, spec_feBiorder.f] at h ⊢
 refine AWp.seq ?_
 refine AWp.region ?_
 refine L.M M.bx ?_
 refine L.Y Y.asg ?_
 refine AList.nil ?_
 refine AWp.seq ?_
 refine AWp.seq ?_
 refine AWp.region ?_
 refine L.Y (Y.fa (off := 2) Try.underlying26 Y22) ?_
 refine L.S (S.ld Try.underlying22) ?_
 refine L.Y (Y.ln Try.underlying22) ?_
 refine L.Y Y.mv ?_
 refine AList.nil ?_
 refine AWp.block ?_
 refine AWp.loopI (fun kk e H => kk ≤ k ∧ ∃ (x9 : Int) (x10 : Int) (x108000 : Int) (x108001 : Int), e = [(1, .ptr 0 0), (8, .row 1 l0_2.length false (ints .i64 l0_2)), (9, .lit (.int .i64 x9)), (10, .lit (.int .i64 x10))] ∧ H = [.bx 26 [.lit (.int .i64 x108000), .lit (.int .i64 x108001), .row 1 l0_2.length false (ints .i64 l0_2)]] ∧ spec_feBiorder.l0 kk l0_2 x9 x10 x108000 x108001 l0_2 = some r) (k := k)
  ⟨_, _, ⟨Nat.le_refl _, _, _, _, _, rfl, rfl, h⟩, IsPart.at [] [0] base0 (H.c .nil) (E.c (E.c (E.c (E.c .nil))))⟩ ?_
 clear h
 rintro k1 e H ⟨hk2, x9, x10, x108000, x108001, rfl, rfl, h⟩
 cases k1 with
 | zero => exact absurd h (by simp [spec_feBiorder.l0])
 | succ k1 =>
 simp only [spec_feBiorder.l0] at h
 refine AWp.seq ?_
 refine AWp.region ?_
 refine L.Y Y.bin ?_
 refine AList.nil ?_
 refine AWp.seq ?_
 refine W.cond (fun hb => ?_) (fun hb => ?_)
 ·
  have hb3 := hb
  try simp only [hS, hE, ne_eq] at hb
  first | rw [if_pos hb3] at h | rw [if_neg (Bool.eq_false_iff.1 hb3)] at h | rw [if_pos hb] at h | rw [if_neg hb] at h | (simp only [hb, hT, reduceIte] at h) | skip
  repeat (first | (rw [iN] at h; obtain ⟨_, h⟩ := h) | (rw [iP] at h; obtain ⟨_, h⟩ := h) | (simp only [bS] at h))
  refine AWp.skip ?_
  refine AWp.seq ?_
  refine AWp.block ?_
  refine AWp.seq ?_
  refine AWp.region ?_
  refine L.Y (Y.ixr Try.underlying22 Y3) ?_
  refine L.S (S.ld Try.underlying3) ?_
  refine L.Y Y.asg ?_
  refine AList.nil ?_
  refine AWp.seq ?_
  refine AWp.region ?_
  refine L.Y (Y.fa (off := 2) Try.underlying26 Y22) ?_
  refine L.S (S.ld Try.underlying22) ?_
  refine L.Y (Y.ln Try.underlying22) ?_
  refine L.Y Y.mv ?_
  refine AList.nil ?_
  refine AWp.block ?_
  refine AWp.loopI (fun kk e H => kk ≤ k1 ∧ ∃ (x4 : Int) (x9 : Int) (x10 : Int) (x16 : Int) (x17 : Int) (x108000 : Int) (x108001 : Int), e = [(1, .ptr 0 0), (4, .lit (.int .i64 x4)), (8, .row 1 l0_2.length false (ints .i64 l0_2)), (9, .lit (.int .i64 x9)), (10, .lit (.int .i64 x10)), (15, .row 1 l0_2.length false (ints .i64 l0_2)), (16, .lit (.int .i64 x16)), (17, .lit (.int .i64 x17))] ∧ H = [.bx 26 [.lit (.int .i64 x108000), .lit (.int .i64 x108001), .row 1 l0_2.length false (ints .i64 l0_2)]] ∧ spec_feBiorder.l1 kk x4 l0_2 x9 x10 l0_2 x16 x17 x108000 x108001 l0_2 = some r) (k := k1)
   ⟨_, _, ⟨Nat.le_refl _, _, _, _, _, _, _, _, rfl, rfl, h⟩, IsPart.at [] [0] base0 (H.c .nil) (E.c (E.c (E.c (E.c (E.c (E.c (E.c (E.c .nil))))))))⟩ ?_
  clear h
  rintro k4 e H ⟨hk5, x4, x9, x10, x16, x17, x108000, x108001, rfl, rfl, h⟩
  cases k4 with
  | zero => exact absurd h (by simp [spec_feBiorder.l1])
  | succ k4 =>
  simp only [spec_feBiorder.l1] at h
  refine AWp.seq ?_
  refine AWp.region ?_
  refine L.Y Y.bin ?_
  refine AList.nil ?_
  refine AWp.seq ?_
  refine W.cond (fun hb => ?_) (fun hb => ?_)
  ·
   have hb6 := hb
   try simp only [hS, hE, ne_eq] at hb
   first | rw [if_pos hb6] at h | rw [if_neg (Bool.eq_false_iff.1 hb6)] at h | rw [if_pos hb] at h | rw [if_neg hb] at h | (simp only [hb, hT, reduceIte] at h) | skip
   repeat (first | (rw [iN] at h; obtain ⟨_, h⟩ := h) | (rw [iP] at h; obtain ⟨_, h⟩ := h) | (simp only [bS] at h))
   refine AWp.skip ?_
   refine AWp.seq ?_
   refine AWp.block ?_
   refine AWp.seq ?_
   refine AWp.region ?_
   refine L.Y (Y.ixr Try.underlying22 Y3) ?_
   refine L.S (S.ld Try.underlying3) ?_
   refine L.Y Y.asg ?_
   refine AList.nil ?_
   refine AWp.seq ?_
   refine AWp.region ?_
   refine L.Y Y.mv ?_
   refine L.Y Y.mv ?_
   refine L.Y Y.bin ?_
   refine L.Y Y.bin ?_
   refine L.Y Y.mv ?_
   refine L.Gc (fun hb => ?_) (fun hb => ?_)
   ·
    have hb7 := hb
    try simp only [hS, hE, ne_eq] at hb
    first | rw [if_pos hb7] at h | rw [if_neg (Bool.eq_false_iff.1 hb7)] at h | rw [if_pos hb] at h | rw [if_neg hb] at h | (simp only [hb, hT, reduceIte] at h) | skip
    refine L.Gy hb7 Y.mv ?_
    refine L.Gy hb7 Y.mv ?_
    refine L.Gy hb7 Y.bin ?_
    refine L.Gy hb7 Y.bin ?_
    refine L.Y (Y.pk (c := true) hb7) ?_
    refine AList.nil ?_
    refine W.cond (fun hb => ?_) (fun hb => ?_)
    ·
     have hb8 := hb
     try simp only [hS, hE, ne_eq] at hb
     first | rw [if_pos hb8] at h | rw [if_neg (Bool.eq_false_iff.1 hb8)] at h | rw [if_pos hb] at h | rw [if_neg hb] at h | (simp only [hb, hT, reduceIte] at h) | skip
     refine AWp.seq ?_
     refine W.kp [1, 4, 6, 8, 9, 10, 15, 16, 17, 18, 30] ?_
     refine AWp.region ?_
     refine L.Y Y.asg ?_
     refine AList.nil ?_
     obtain rfl := Option.some.inj h
     refine AWp.ret ?_
     exact ⟨.inr rfl, [(2, _)], _, ⟨rfl, rfl⟩, IsPart.at [] [] base0 .nil (E.c .nil)⟩
    ·
     have hb8 := hb
     try simp only [hS, hE, ne_eq] at hb
     first | rw [if_pos hb8] at h | rw [if_neg (Bool.eq_false_iff.1 hb8)] at h | rw [if_pos hb] at h | rw [if_neg hb] at h | (simp only [hb, hT, reduceIte] at h) | skip
     refine AWp.skip ?_
     refine W.kp [1, 4, 6, 8, 9, 10, 15, 16, 17, 18, 30] ?_
     refine AWp.region ?_
     refine L.Y Y.bin ?_
     refine L.Y Y.mv ?_
     refine AList.nil ?_
     exact ⟨k4, by omega, _, _, ⟨by omega, _, _, _, _, _, _, _, rfl, rfl, h⟩, IsPart.at [] [0] base0 (H.c .nil) (E.c (E.c (E.c (E.c (E.c (E.c (E.c (E.c .nil))))))))⟩
   ·
    have hb7 := hb
    try simp only [hS, hE, ne_eq] at hb
    first | rw [if_pos hb7] at h | rw [if_neg (Bool.eq_false_iff.1 hb7)] at h | rw [if_pos hb] at h | rw [if_neg hb] at h | (simp only [hb, hT, reduceIte] at h) | skip
    refine L.Gn hb7 ?_
    refine L.Gn hb7 ?_
    refine L.Gn hb7 ?_
    refine L.Gn hb7 ?_
    refine L.Y (Y.pk (c := false) hb7) ?_
    refine AList.nil ?_
    refine W.cond (fun hb => ?_) (fun hb => ?_)
    ·
     first | exact Bool.false_ne_true ((Eq.symm (by assumption)).trans hb) | exact Bool.false_ne_true (hb.symm.trans (by assumption)) | exact DD hb
    have hb9 := hb
    refine AWp.skip ?_
    refine W.kp [1, 4, 6, 8, 9, 10, 15, 16, 17, 18, 30] ?_
    refine AWp.region ?_
    refine L.Y Y.bin ?_
    refine L.Y Y.mv ?_
    refine AList.nil ?_
    exact ⟨k4, by omega, _, _, ⟨by omega, _, _, _, _, _, _, _, rfl, rfl, h⟩, IsPart.at [] [0] base0 (H.c .nil) (E.c (E.c (E.c (E.c (E.c (E.c (E.c (E.c .nil))))))))⟩
  ·
   have hb6 := hb
   try simp only [hS, hE, ne_eq] at hb
   first | rw [if_pos hb6] at h | rw [if_neg (Bool.eq_false_iff.1 hb6)] at h | rw [if_pos hb] at h | rw [if_neg hb] at h | (simp only [hb, hT, reduceIte] at h) | skip
   refine AWp.exit ?_
   refine AWp.region ?_
   refine L.Y Y.bin ?_
   refine L.Y Y.mv ?_
   refine AList.nil ?_
   exact ⟨k4, by omega, _, _, ⟨by omega, _, _, _, _, rfl, rfl, h⟩, IsPart.at [] [0] base0 (H.c .nil) (E.c (E.c (E.c (E.c .nil))))⟩
 ·
  have hb3 := hb
  try simp only [hS, hE, ne_eq] at hb
  first | rw [if_pos hb3] at h | rw [if_neg (Bool.eq_false_iff.1 hb3)] at h | rw [if_pos hb] at h | rw [if_neg hb] at h | (simp only [hb, hT, reduceIte] at h) | skip
  refine AWp.exit ?_
  refine AWp.seq ?_
  refine AWp.region ?_
  refine L.Y Y.asg ?_
  refine AList.nil ?_
  obtain rfl := Option.some.inj h
  refine AWp.ret ?_
  exact ⟨.inr rfl, [(2, _)], _, ⟨rfl, rfl⟩, IsPart.at [] [] base0 .nil (E.c .nil)⟩

/-! ### spec_l1Put: function 40 -/
def spec_l1Put.l0 : Nat → List Int → Int → Int → Option (List Int)
 | 0, _, _, _ => none
 | k + 1, x0, x1, x5 => if x5 < (x0.length : Int) then (if 0 ≤ x5 then (if (rd x0 x5) < x1 then (spec_l1Put.l0 k x0 x1 (wrap64 (x5 + 1))) else (if (rd x0 x5) = x1 then (some x0) else ((some (([] : List Int) : List Int)).bind fun y112 => (if x5 ≤ (x0.length : Int) then ((some (x0.take (x5 : Int).toNat : List Int)).bind fun y115 => (if y112.length + y115.length < 17592186044416 then ((some (y112 ++ y115 : List Int)).bind fun y119 => (if y119.length < 17592186044416 then ((some (y119 ++ [x1] : List Int)).bind fun y122 => ((some (x0.drop (x5 : Int).toNat : List Int)).bind fun y125 => (if y122.length + y125.length < 17592186044416 then (some (y122 ++ y125)) else (none)))) else (none))) else (none))) else (none))))) else (none)) else ((some (([] : List Int) : List Int)).bind fun y132 => (if 0 ≤ x5 then (if x5 ≤ (x0.length : Int) then ((some (x0.take (x5 : Int).toNat : List Int)).bind fun y135 => (if y132.length + y135.length < 17592186044416 then ((some (y132 ++ y135 : List Int)).bind fun y139 => (if y139.length < 17592186044416 then ((some (y139 ++ [x1] : List Int)).bind fun y142 => ((some (x0.drop (x5 : Int).toNat : List Int)).bind fun y145 => (if y142.length + y145.length < 17592186044416 then (some (y142 ++ y145)) else (none)))) else (none))) else (none))) else (none)) else (none)))
def spec_l1Put.f (k : Nat) (l0 : List Int) (a1 : Int) : Option (List Int) := spec_l1Put.l0 k l0 a1 0
set_option maxRecDepth 100000 in
set_option maxHeartbeats 20000000 in
theorem spec_l1Put.ac (k : Nat) (l0 : List Int) (a1 : Int) (r : List Int) (h : spec_l1Put.f k l0 a1 = some r) :
  ACalls Try.prog 40 [.row 1 l0.length false (ints .i64 l0), .lit (.int .i64 a1)] [] (fun v H' => v = .row 1 r.length false (ints .i64 r) ∧ H' = []) := by
 refine ACalls.ofP [4] Try.func40 rfl (by exact Nat.le_of_ble_eq_true rfl) rfl (by decide) ?_
 simp only [Try.ntmps40, env0, spec_l1Put.f] at h ⊢
 refine AWp.seq ?_
 refine AWp.region ?_
 refine L.Y Y.asg ?_
 refine AList.nil ?_
 refine AWp.seq ?_
 refine AWp.region ?_
 refine L.Y Y.asg ?_
 refine AList.nil ?_
 refine AWp.seq ?_
 refine AWp.block ?_
 refine AWp.loopI (fun kk e H => kk ≤ k ∧ ∃ (x1 : Int) (x5 : Int), e = [(0, .row 1 l0.length false (ints .i64 l0)), (1, .lit (.int .i64 x1)), (4, .lit (.slice none 0 0)), (5, .lit (.int .i64 x5))] ∧ H = [] ∧ spec_l1Put.l0 kk l0 x1 x5 = some r) (k := k)
  ⟨_, _, ⟨Nat.le_refl _, _, _, rfl, rfl, h⟩, IsPart.at [] [] base0 .nil (E.c (E.c (E.c (E.c .nil))))⟩ ?_
 clear h
 rintro k1 e H ⟨hk2, x1, x5, rfl, rfl, h⟩
 cases k1 with
 | zero => exact absurd h (by simp [spec_l1Put.l0])
 | succ k1 =>
 simp only [spec_l1Put.l0] at h
 refine AWp.seq ?_
 refine AWp.seq ?_
 refine AWp.region ?_
 refine L.Y Y.mv ?_
 refine L.Y Y.mv ?_
 refine L.Y (Y.ln Try.underlying22) ?_
 refine L.Y Y.bin ?_
 refine L.Y Y.mv ?_
 refine L.Gc (fun hb => ?_) (fun hb => ?_)
 ·
  have hb3 := hb
  try simp only [hS, hE, ne_eq] at hb
  first | rw [if_pos hb3] at h | rw [if_neg (Bool.eq_false_iff.1 hb3)] at h | rw [if_pos hb] at h | rw [if_neg hb] at h | (simp only [hb, hT, reduceIte] at h) | skip
  repeat (first | (rw [iN] at h; obtain ⟨_, h⟩ := h) | (rw [iP] at h; obtain ⟨_, h⟩ := h) | (simp only [bS] at h))
  refine L.Gy hb3 Y.mv ?_
  refine L.Gy hb3 Y.mv ?_
  refine L.Gy hb3 (Y.ixr Try.underlying22 Y3) ?_
  refine L.Gs hb3 (S.ld Try.underlying3) ?_
  refine L.Gy hb3 Y.mv ?_
  refine L.Gy hb3 Y.bin ?_
  refine L.Y (Y.pk (c := true) hb3) ?_
  refine AList.nil ?_
  refine W.cond (fun hb => ?_) (fun hb => ?_)
  ·
   have hb4 := hb
   try simp only [hS, hE, ne_eq] at hb
   first | rw [if_pos hb4] at h | rw [if_neg (Bool.eq_false_iff.1 hb4)] at h | rw [if_pos hb] at h | rw [if_neg hb] at h | (simp only [hb, hT, reduceIte] at h) | skip
   refine AWp.skip ?_
   refine AWp.block ?_
   refine W.kp [0, 1, 4, 5, 18] ?_
   refine AWp.region ?_
   refine L.Y Y.mv ?_
   refine L.Y Y.bin ?_
   refine L.Y Y.asg ?_
   refine AList.nil ?_
   exact ⟨k1, by omega, _, _, ⟨by omega, _, _, rfl, rfl, h⟩, IsPart.at [] [] base0 .nil (E.c (E.c (E.c (E.c .nil))))⟩
  ·
   have hb4 := hb
   try simp only [hS, hE, ne_eq] at hb
   first | rw [if_pos hb4] at h | rw [if_neg (Bool.eq_false_iff.1 hb4)] at h | rw [if_pos hb] at h | rw [if_neg hb] at h | (simp only [hb, hT, reduceIte] at h) | skip
   refine AWp.exit ?_
   refine AWp.seq ?_
   refine AWp.seq ?_
   refine W.kp [0, 1, 4, 5, 18] ?_
   refine AWp.region ?_
   refine L.Y Y.mv ?_
   refine L.Y Y.mv ?_
   refine L.Y (Y.ln Try.underlying22) ?_
   refine L.Y Y.bin ?_
   refine L.Y Y.mv ?_
   refine L.Gc (fun hb => ?_) (fun hb => ?_)
   rotate_left
   ·
    first | exact Bool.false_ne_true ((Eq.symm (by assumption)).trans hb) | exact Bool.false_ne_true (hb.symm.trans (by assumption)) | exact DD hb
   have hb5 := hb
   refine L.Gy hb5 Y.mv ?_
   refine L.Gy hb5 Y.mv ?_
   refine L.Gy hb5 (Y.ixr Try.underlying22 Y3) ?_
   refine L.Gs hb5 (S.ld Try.underlying3) ?_
   refine L.Gy hb5 Y.mv ?_
   refine L.Gy hb5 Y.bin ?_
   refine L.Y (Y.pk (c := true) hb5) ?_
   refine AList.nil ?_
   refine W.cond (fun hb => ?_) (fun hb => ?_)
   ·
    have hb6 := hb
    try simp only [hS, hE, ne_eq] at hb
    first | rw [if_pos hb6] at h | rw [if_neg (Bool.eq_false_iff.1 hb6)] at h | rw [if_pos hb] at h | rw [if_neg hb] at h | (simp only [hb, hT, reduceIte] at h) | skip
    refine AWp.seq ?_
    refine W.kp [0, 1, 4, 5, 18, 32] ?_
    refine AWp.region ?_
    refine L.Y Y.mv ?_
    refine L.Y Y.asg ?_
    refine AList.nil ?_
    obtain rfl := Option.some.inj h
    refine AWp.ret ?_
    exact ⟨.inr rfl, [(4, _)], _, ⟨rfl, rfl⟩, IsPart.at [] [] base0 .nil (E.c .nil)⟩
   ·
    have hb6 := hb
    try simp only [hS, hE, ne_eq] at hb
    first | rw [if_pos hb6] at h | rw [if_neg (Bool.eq_false_iff.1 hb6)] at h | rw [if_pos hb] at h | rw [if_neg hb] at h | (simp only [hb, hT, reduceIte] at h) | skip
    repeat (first | (rw [iN] at h; obtain ⟨_, h⟩ := h) | (rw [iP] at h; obtain ⟨_, h⟩ := h) | (simp only [bS] at h))
    refine AWp.skip ?_
    refine AWp.seq ?_
    refine W.kp [0, 1, 4, 5, 18, 32] ?_
    refine AWp.region ?_
    refine L.M (M.bs Try.underlying22 Y3) ?_
    refine L.Y Y.mv ?_
    refine L.Y Y.mv ?_
    refine L.Y (Y.crh Try.underlying22 Y3) ?_
    refine L.S (S.ap (nn' := true) Try.underlying22 Y3) ?_
    refine L.Y Y.asg ?_
    refine AList.nil ?_
    refine AWp.seq ?_
    refine W.kp [0, 1, 4, 5, 6, 18, 32] ?_
    refine AWp.region ?_
    refine L.Y Y.mv ?_
    refine L.Y Y.mv ?_
    refine L.M (M.bs Try.underlying22 Y3) ?_
    refine L.S (S.ap (nn' := true) Try.underlying22 Y3) ?_
    refine L.Y Y.asg ?_
    refine AList.nil ?_
    refine AWp.seq ?_
    refine W.kp [0, 1, 4, 5, 6, 18, 32] ?_
    refine AWp.region ?_
    refine L.Y Y.mv ?_
    refine L.Y Y.mv ?_
    refine L.Y Y.mv ?_
    refine L.Y (Y.crl Try.underlying22 Y3) ?_
    refine L.S (S.ap (nn' := true) Try.underlying22 Y3) ?_
    refine L.Y Y.asg ?_
    refine AList.nil ?_
    obtain rfl := Option.some.inj h
    refine W.frz 0 ?_
    refine AWp.ret ?_
    exact ⟨.inr rfl, [(4, _)], _, ⟨rfl, rfl⟩, IsPart.at [] [] base0 .nil (E.c .nil)⟩
 ·
  have hb3 := hb
  try simp only [hS, hE, ne_eq] at hb
  first | rw [if_pos hb3] at h | rw [if_neg (Bool.eq_false_iff.1 hb3)] at h | rw [if_pos hb] at h | rw [if_neg hb] at h | (simp only [hb, hT, reduceIte] at h) | skip
  repeat (first | (rw [iN] at h; obtain ⟨_, h⟩ := h) | (rw [iP] at h; obtain ⟨_, h⟩ := h) | (simp only [bS] at h))
  refine L.Gn hb3 ?_
  refine L.Gn hb3 ?_
  refine L.Gn hb3 ?_
  refine L.Gn hb3 ?_
  refine L.Gn hb3 ?_
  refine L.Gn hb3 ?_
  refine L.Y (Y.pk (c := false) hb3) ?_
  refine AList.nil ?_
  refine W.cond (fun hb => ?_) (fun hb => ?_)
  ·
   first | exact Bool.false_ne_true ((Eq.symm (by assumption)).trans hb) | exact Bool.false_ne_true (hb.symm.trans (by assumption)) | exact DD hb
  have hb7 := hb
  refine AWp.exit ?_
  refine AWp.seq ?_
  refine AWp.seq ?_
  refine W.kp [0, 1, 4, 5, 18] ?_
  refine AWp.region ?_
  refine L.Y Y.mv ?_
  refine L.Y Y.mv ?_
  refine L.Y (Y.ln Try.underlying22) ?_
  refine L.Y Y.bin ?_
  refine L.Y Y.mv ?_
  refine L.Gc (fun hb => ?_) (fun hb => ?_)
  ·
   first | exact Bool.false_ne_true ((Eq.symm (by assumption)).trans hb) | exact Bool.false_ne_true (hb.symm.trans (by assumption)) | exact DD hb
  have hb8 := hb
  refine L.Gn hb8 ?_
  refine L.Gn hb8 ?_
  refine L.Gn hb8 ?_
  refine L.Gn hb8 ?_
  refine L.Gn hb8 ?_
  refine L.Gn hb8 ?_
  refine L.Y (Y.pk (c := false) hb8) ?_
  refine AList.nil ?_
  refine W.cond (fun hb => ?_) (fun hb => ?_)
  ·
   first | exact Bool.false_ne_true ((Eq.symm (by assumption)).trans hb) | exact Bool.false_ne_true (hb.symm.trans (by assumption)) | exact DD hb
  have hb9 := hb
  refine AWp.skip ?_
  refine AWp.seq ?_
  refine W.kp [0, 1, 4, 5, 18, 32] ?_
  refine AWp.region ?_
  refine L.M (M.bs Try.underlying22 Y3) ?_
  refine L.Y Y.mv ?_
  refine L.Y Y.mv ?_
  refine L.Y (Y.crh Try.underlying22 Y3) ?_
  refine L.S (S.ap (nn' := true) Try.underlying22 Y3) ?_
  refine L.Y Y.asg ?_
  refine AList.nil ?_
  refine AWp.seq ?_
  refine W.kp [0, 1, 4, 5, 6, 18, 32] ?_
  refine AWp.region ?_
  refine L.Y Y.mv ?_
  refine L.Y Y.mv ?_
  refine L.M (M.bs Try.underlying22 Y3) ?_
  refine L.S (S.ap (nn' := true) Try.underlying22 Y3) ?_
  refine L.Y Y.asg ?_
  refine AList.nil ?_
  refine AWp.seq ?_
  refine W.kp [0, 1, 4, 5, 6, 18, 32] ?_
  refine AWp.region ?_
  refine L.Y Y.mv ?_
  refine L.Y Y.mv ?_
  refine L.Y Y.mv ?_
  refine L.Y (Y.crl Try.underlying22 Y3) ?_
  refine L.S (S.ap (nn' := true) Try.underlying22 Y3) ?_
  refine L.Y Y.asg ?_
  refine AList.nil ?_
  obtain rfl := Option.some.inj h
  refine W.frz 0 ?_
  refine AWp.ret ?_
  exact ⟨.inr rfl, [(4, _)], _, ⟨rfl, rfl⟩, IsPart.at [] [] base0 .nil (E.c .nil)⟩

/-! ### spec_l1Most: function 41 -/
def spec_l1Most.f (a0 : Int) (a1 : Int) : Option (Int) := if a0 > a1 then (some a0) else (some a1)
set_option maxRecDepth 100000 in
set_option maxHeartbeats 20000000 in
theorem spec_l1Most.ac (a0 : Int) (a1 : Int) (r : Int) (h : spec_l1Most.f a0 a1 = some r) :
  ACalls Try.prog 41 [.lit (.int .i64 a0), .lit (.int .i64 a1)] [] (fun v H' => v = .lit (.int .i64 r) ∧ H' = []) := by
 refine ACalls.ofP [4] Try.func41 rfl (by exact Nat.le_of_ble_eq_true rfl) rfl (by decide) ?_
 simp only [Try.ntmps41, env0, spec_l1Most.f] at h ⊢
 refine AWp.seq ?_
 refine AWp.region ?_
 refine L.Y Y.asg ?_
 refine AList.nil ?_
 refine AWp.seq ?_
 refine AWp.seq ?_
 refine AWp.region ?_
 refine L.Y Y.mv ?_
 refine L.Y Y.mv ?_
 refine L.Y Y.bin ?_
 refine AList.nil ?_
 refine W.cond (fun hb => ?_) (fun hb => ?_)
 ·
  have hb1 := hb
  try simp only [hS, hE, ne_eq] at hb
  first | rw [if_pos hb1] at h | rw [if_neg (Bool.eq_false_iff.1 hb1)] at h | rw [if_pos hb] at h | rw [if_neg hb] at h | (simp only [hb, hT, reduceIte] at h) | skip
  refine AWp.seq ?_
  refine AWp.region ?_
  refine L.Y Y.mv ?_
  refine L.Y Y.asg ?_
  refine AList.nil ?_
  obtain rfl := Option.some.inj h
  refine AWp.ret ?_
  exact ⟨.inr rfl, [(4, _)], _, ⟨rfl, rfl⟩, IsPart.at [] [] base0 .nil (E.c .nil)⟩
 ·
  have hb1 := hb
  try simp only [hS, hE, ne_eq] at hb
  first | rw [if_pos hb1] at h | rw [if_neg (Bool.eq_false_iff.1 hb1)] at h | rw [if_pos hb] at h | rw [if_neg hb] at h | (simp only [hb, hT, reduceIte] at h) | skip
  refine AWp.skip ?_
  refine AWp.seq ?_
  refine AWp.region ?_
  refine L.Y Y.mv ?_
  refine L.Y Y.asg ?_
  refine AList.nil ?_
  obtain rfl := Option.some.inj h
  refine AWp.ret ?_
  exact ⟨.inr rfl, [(4, _)], _, ⟨rfl, rfl⟩, IsPart.at [] [] base0 .nil (E.c .nil)⟩

/-! ### spec_orHas: function 42 -/
def spec_orHas.f (a0 : Int) (a1 : Int) : Option (Bool) := if 0 ≤ a1 then (some ((Int.tmod (shr .i64 a0 a1) 2) == 1)) else (none)
set_option maxRecDepth 100000 in
set_option maxHeartbeats 20000000 in
theorem spec_orHas.ac (a0 : Int) (a1 : Int) (r : Bool) (h : spec_orHas.f a0 a1 = some r) :
  ACalls Try.prog 42 [.lit (.int .i64 a0), .lit (.int .i64 a1)] [] (fun v H' => v = .lit (.bool r) ∧ H' = []) := by
 refine ACalls.ofP [4] Try.func42 rfl (by exact Nat.le_of_ble_eq_true rfl) rfl (by decide) ?_
 simp only [Try.ntmps42, env0, spec_orHas.f] at h ⊢
 repeat (first | (rw [iN] at h; obtain ⟨_, h⟩ := h) | (rw [iP] at h; obtain ⟨_, h⟩ := h) | (simp only [bS] at h))
 refine AWp.seq ?_
 refine AWp.region ?_
 refine L.Y Y.asg ?_
 refine AList.nil ?_
 refine AWp.seq ?_
 refine AWp.region ?_
 refine L.Y Y.mv ?_
 refine L.Y Y.mv ?_
 refine L.Y Y.bin ?_
 refine L.Y Y.bin ?_
 refine L.Y Y.bin ?_
 refine L.Y Y.asg ?_
 refine AList.nil ?_
 obtain rfl := Option.some.inj h
 refine AWp.ret ?_
 exact ⟨.inr rfl, [(4, _)], _, ⟨rfl, rfl⟩, IsPart.at [] [] base0 .nil (E.c .nil)⟩

/-! ### spec_l1Least: function 43 -/
def spec_l1Least.f (a0 : Int) (a1 : Int) : Option (Int) := if a0 < a1 then (some a0) else (some a1)
set_option maxRecDepth 100000 in
set_option maxHeartbeats 20000000 in
theorem spec_l1Least.ac (a0 : Int) (a1 : Int) (r : Int) (h : spec_l1Least.f a0 a1 = some r) :
  ACalls Try.prog 43 [.lit (.int .i64 a0), .lit (.int .i64 a1)] [] (fun v H' => v = .lit (.int .i64 r) ∧ H' = []) := by
 refine ACalls.ofP [4] Try.func43 rfl (by exact Nat.le_of_ble_eq_true rfl) rfl (by decide) ?_
 simp only [Try.ntmps43, env0, spec_l1Least.f] at h ⊢
 refine AWp.seq ?_
 refine AWp.region ?_
 refine L.Y Y.asg ?_
 refine AList.nil ?_
 refine AWp.seq ?_
 refine AWp.seq ?_
 refine AWp.region ?_
 refine L.Y Y.mv ?_
 refine L.Y Y.mv ?_
 refine L.Y Y.bin ?_
 refine AList.nil ?_
 refine W.cond (fun hb => ?_) (fun hb => ?_)
 ·
  have hb1 := hb
  try simp only [hS, hE, ne_eq] at hb
  first | rw [if_pos hb1] at h | rw [if_neg (Bool.eq_false_iff.1 hb1)] at h | rw [if_pos hb] at h | rw [if_neg hb] at h | (simp only [hb, hT, reduceIte] at h) | skip
  refine AWp.seq ?_
  refine AWp.region ?_
  refine L.Y Y.mv ?_
  refine L.Y Y.asg ?_
  refine AList.nil ?_
  obtain rfl := Option.some.inj h
  refine AWp.ret ?_
  exact ⟨.inr rfl, [(4, _)], _, ⟨rfl, rfl⟩, IsPart.at [] [] base0 .nil (E.c .nil)⟩
 ·
  have hb1 := hb
  try simp only [hS, hE, ne_eq] at hb
  first | rw [if_pos hb1] at h | rw [if_neg (Bool.eq_false_iff.1 hb1)] at h | rw [if_pos hb] at h | rw [if_neg hb] at h | (simp only [hb, hT, reduceIte] at h) | skip
  refine AWp.skip ?_
  refine AWp.seq ?_
  refine AWp.region ?_
  refine L.Y Y.mv ?_
  refine L.Y Y.asg ?_
  refine AList.nil ?_
  obtain rfl := Option.some.inj h
  refine AWp.ret ?_
  exact ⟨.inr rfl, [(4, _)], _, ⟨rfl, rfl⟩, IsPart.at [] [] base0 .nil (E.c .nil)⟩

end Go.Proofs.Ytakabmokpknknaa.PFnBiordersHaveScales
