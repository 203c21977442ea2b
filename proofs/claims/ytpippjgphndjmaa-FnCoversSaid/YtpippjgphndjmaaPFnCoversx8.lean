-- Written by a program of this session's (wip/myprint2): the functions by the kit's print, the walks by awgen.py. Lean checks it.
import Derived.Test.YtpippjgphndjmaaPFnCoversx0
import Derived.Test.YtpippjgphndjmaaPFnCoversx4
namespace Go.Proofs.Ytpippjgphndjmaa.PFnCovers
open Go.RowKit Go.Proofs.YtpippjgphndjmaaW.PrintWords Go.Proofs.YtpippjgphndjmaaW.PrintLast Go.Proofs.YtpippjgphndjmaaW.PrintMore Go.Proofs.YtpippjgphndjmaaM Go.Proofs.YtpippjgphndjmaaA
attribute [local go_sem] max2_int min2_int max_two min_two max_three min_three max_four min_four   -- for this text's walks alone
set_option linter.unusedVariables false
set_option linter.unusedSimpArgs false

/-! ### laws_vSame: function 26 -/
def laws_vSame.l0 : Nat → List Int → List Int → Int → Int → Option (Bool)
 | 0, _, _, _, _ => none
 | k + 1, x0, x1, x12, x13 => if x13 < x12 then (if 0 ≤ x13 then (if x13 < (x0.length : Int) then (if x13 < (x1.length : Int) then (if (rd x0 x13) = (rd x1 x13) then (laws_vSame.l0 k x0 x1 x12 (wrap64 (x13 + 1))) else (some false)) else (none)) else (none)) else (none)) else (some true)
def laws_vSame.f (k : Nat) (l0 : List Int) (l1 : List Int) : Option (Bool) := if (l0.length : Int) = (l1.length : Int) then (laws_vSame.l0 k l0 l1 (l0.length : Int) 0) else (some false)
set_option maxRecDepth 100000 in
set_option maxHeartbeats 20000000 in
theorem laws_vSame.ac (k : Nat) (l0 : List Int) (l1 : List Int) (r : Bool) (h : laws_vSame.f k l0 l1 = some r) :
  ACalls Try.prog 26 [.row 1 l0.length false (ints .i64 l0), .row 1 l1.length false (ints .i64 l1)] [] (fun v H' => v = .lit (.bool r) ∧ H' = []) := by
 refine ACalls.ofP [4] Try.func26 rfl (by exact Nat.le_of_ble_eq_true rfl) rfl (by decide) ?_
 simp only [Try.ntmps26, env0, laws_vSame.f] at h ⊢
 refine AWp.seq ?_
 refine AWp.region ?_
 refine L.Y Y.asg ?_
 refine AList.nil ?_
 refine AWp.seq ?_
 refine AWp.seq ?_
 refine AWp.region ?_
 refine L.Y Y.mv ?_
 refine L.Y (Y.ln Try.underlying22) ?_
 refine L.Y Y.mv ?_
 refine L.Y (Y.ln Try.underlying22) ?_
 refine L.Y Y.bin ?_
 refine AList.nil ?_
 refine W.cond (fun hb => ?_) (fun hb => ?_)
 ·
  have hb1 := hb
  try simp only [hS, hE, ne_eq] at hb
  first | rw [if_pos hb1] at h | rw [if_neg (Bool.eq_false_iff.1 hb1)] at h | rw [if_pos hb] at h | rw [if_neg hb] at h | (simp only [hb, hT, reduceIte] at h) | skip
  refine AWp.seq ?_
  refine W.kp [0, 1, 4, 10] ?_
  refine AWp.region ?_
  refine L.Y Y.asg ?_
  refine AList.nil ?_
  obtain rfl := Option.some.inj h
  refine AWp.ret ?_
  exact ⟨.inr rfl, [(4, _)], _, ⟨rfl, rfl⟩, IsPart.at [] [] base0 .nil (E.c .nil)⟩
 ·
  have hb1 := hb
  try simp only [hS, hE, ne_eq] at hb
  first | rw [if_pos hb1] at h | rw [if_neg (Bool.eq_false_iff.1 hb1)] at h | rw [if_pos hb] at h | rw [if_neg hb] at h | (simp only [hb, hT, reduceIte] at h) | skip
  refine AWp.skip ?_
  refine AWp.seq ?_
  refine AWp.seq ?_
  refine W.kp [0, 1, 4, 10] ?_
  refine AWp.region ?_
  refine L.Y Y.mv ?_
  refine L.Y (Y.ln Try.underlying22) ?_
  refine L.Y Y.mv ?_
  refine AList.nil ?_
  refine AWp.block ?_
  refine AWp.loopI (fun kk e H => kk ≤ k ∧ ∃ (x12 : Int) (x13 : Int), e = [(0, .row 1 l0.length false (ints .i64 l0)), (1, .row 1 l1.length false (ints .i64 l1)), (12, .lit (.int .i64 x12)), (13, .lit (.int .i64 x13))] ∧ H = [] ∧ laws_vSame.l0 kk l0 l1 x12 x13 = some r) (k := k)
   ⟨_, _, ⟨Nat.le_refl _, _, _, rfl, rfl, h⟩, IsPart.at [] [] base0 .nil (E.c (E.c (E.c (E.c .nil))))⟩ ?_
  clear h
  rintro k2 e H ⟨hk3, x12, x13, rfl, rfl, h⟩
  cases k2 with
  | zero => exact absurd h (by simp [laws_vSame.l0])
  | succ k2 =>
  simp only [laws_vSame.l0] at h
  refine AWp.seq ?_
  refine AWp.region ?_
  refine L.Y Y.bin ?_
  refine AList.nil ?_
  refine AWp.seq ?_
  refine W.cond (fun hb => ?_) (fun hb => ?_)
  ·
   have hb4 := hb
   try simp only [hS, hE, ne_eq] at hb
   first | rw [if_pos hb4] at h | rw [if_neg (Bool.eq_false_iff.1 hb4)] at h | rw [if_pos hb] at h | rw [if_neg hb] at h | (simp only [hb, hT, reduceIte] at h) | skip
   repeat (first | (rw [iN] at h; obtain ⟨_, h⟩ := h) | (rw [iP] at h; obtain ⟨_, h⟩ := h) | (simp only [bS] at h))
   refine AWp.skip ?_
   refine AWp.seq ?_
   refine AWp.block ?_
   refine AWp.seq ?_
   refine AWp.region ?_
   refine L.Y Y.mv ?_
   refine L.Y Y.asg ?_
   refine AList.nil ?_
   refine AWp.seq ?_
   refine Dt.reg [] [] (.y 0 (.y 1 (.y 2 (.t 3 (.y 4 (.y 5 (.y 6 (.t 7 (.y 8 .done))))))))) HM ?_
   refine Dt.Y rfl wantN Y.mv ?_
   refine Dt.Y rfl wantN Y.mv ?_
   refine Dt.Y rfl wantN (Y.ixr Try.underlying22 Y3) ?_
   refine Dt.T rfl wantN (D.ld Try.underlying3) ?_
   refine Dt.Y rfl wantN Y.mv ?_
   refine Dt.Y rfl wantN Y.mv ?_
   refine Dt.Y rfl wantN (Y.ixr Try.underlying22 Y3) ?_
   refine Dt.T rfl wantN (D.ld Try.underlying3) ?_
   refine Dt.Y rfl wantN Y.bin ?_
   refine Dt.nil ?_
   refine W.cond (fun hb => ?_) (fun hb => ?_)
   ·
    have hb5 := hb
    try simp only [hS, hE, ne_eq] at hb
    first | rw [if_pos hb5] at h | rw [if_neg (Bool.eq_false_iff.1 hb5)] at h | rw [if_pos hb] at h | rw [if_neg hb] at h | (simp only [hb, hT, reduceIte] at h) | skip
    refine AWp.seq ?_
    refine W.kp [0, 1, 5, 12, 13, 14, 24] ?_
    refine AWp.region ?_
    refine L.Y Y.asg ?_
    refine AList.nil ?_
    obtain rfl := Option.some.inj h
    refine AWp.ret ?_
    exact ⟨.inr rfl, [(4, _)], _, ⟨rfl, rfl⟩, IsPart.at [] [] base0 .nil (E.c .nil)⟩
   ·
    have hb5 := hb
    try simp only [hS, hE, ne_eq] at hb
    first | rw [if_pos hb5] at h | rw [if_neg (Bool.eq_false_iff.1 hb5)] at h | rw [if_pos hb] at h | rw [if_neg hb] at h | (simp only [hb, hT, reduceIte] at h) | skip
    refine AWp.skip ?_
    refine W.kp [0, 1, 5, 12, 13, 14, 24] ?_
    refine AWp.region ?_
    refine L.Y Y.bin ?_
    refine L.Y Y.mv ?_
    refine AList.nil ?_
    exact ⟨k2, by omega, _, _, ⟨by omega, _, _, rfl, rfl, h⟩, IsPart.at [] [] base0 .nil (E.c (E.c (E.c (E.c .nil))))⟩
  ·
   have hb4 := hb
   try simp only [hS, hE, ne_eq] at hb
   first | rw [if_pos hb4] at h | rw [if_neg (Bool.eq_false_iff.1 hb4)] at h | rw [if_pos hb] at h | rw [if_neg hb] at h | (simp only [hb, hT, reduceIte] at h) | skip
   refine AWp.exit ?_
   refine AWp.seq ?_
   refine AWp.region ?_
   refine L.Y Y.asg ?_
   refine AList.nil ?_
   obtain rfl := Option.some.inj h
   refine AWp.ret ?_
   exact ⟨.inr rfl, [(4, _)], _, ⟨rfl, rfl⟩, IsPart.at [] [] base0 .nil (E.c .nil)⟩

/-! ### laws_vTable: function 25 -/
def laws_vTable.f (k : Nat) (a0_0 : Int) (a0_1 : Int) (l0_2 : List Int) (a1_0 : Int) (a1_1 : Int) (l1_2 : List Int) : Option (Bool) := if a0_0 = a1_0 then (if a0_1 = a1_1 then ((laws_vSame.f k l0_2 l1_2).bind fun t357 => (some t357)) else (some false)) else (some false)
set_option maxRecDepth 100000 in
set_option maxHeartbeats 20000000 in
theorem laws_vTable.ac (k : Nat) (a0_0 : Int) (a0_1 : Int) (l0_2 : List Int) (a1_0 : Int) (a1_1 : Int) (l1_2 : List Int) (r : Bool) (h : laws_vTable.f k a0_0 a0_1 l0_2 a1_0 a1_1 l1_2 = some r) :
  ACalls Try.prog 25 [.agg [.lit (.int .i64 a0_0), .lit (.int .i64 a0_1), .row 1 l0_2.length false (ints .i64 l0_2)], .agg [.lit (.int .i64 a1_0), .lit (.int .i64 a1_1), .row 1 l1_2.length false (ints .i64 l1_2)]] [] (fun v H' => v = .lit (.bool r) ∧ H' = []) := by
 refine ACalls.ofP [4] Try.func25 rfl (by exact Nat.le_of_ble_eq_true rfl) rfl (by decide) ?_
 simp only [Try.ntmps25, env0, laws_vTable.f] at h ⊢
 refine AWp.seq ?_
 refine AWp.region ?_
 refine L.M M.bx ?_
 refine L.M M.bx ?_
 refine L.Y Y.asg ?_
 refine AList.nil ?_
 refine AWp.seq ?_
 refine AWp.region ?_
 refine L.Y (Y.fa (off := 0) Try.underlying28 Y3) ?_
 refine L.S (S.ld Try.underlying3) ?_
 refine L.Y (Y.fa (off := 0) Try.underlying28 Y3) ?_
 refine L.S (S.ld Try.underlying3) ?_
 refine L.Y Y.bin ?_
 refine L.Y Y.mv ?_
 refine L.Gc (fun hb => ?_) (fun hb => ?_)
 ·
  have hb1 := hb
  try simp only [hS, hE, ne_eq] at hb
  first | rw [if_pos hb1] at h | rw [if_neg (Bool.eq_false_iff.1 hb1)] at h | rw [if_pos hb] at h | rw [if_neg hb] at h | (simp only [hb, hT, reduceIte] at h) | skip
  refine L.Gy hb1 (Y.fa (off := 1) Try.underlying28 Y3) ?_
  refine L.Gs hb1 (S.ld Try.underlying3) ?_
  refine L.Gy hb1 (Y.fa (off := 1) Try.underlying28 Y3) ?_
  refine L.Gs hb1 (S.ld Try.underlying3) ?_
  refine L.Gy hb1 Y.bin ?_
  refine L.Y (Y.pk (c := true) hb1) ?_
  refine L.Y Y.mv ?_
  refine L.Gc (fun hb => ?_) (fun hb => ?_)
  ·
   have hb2 := hb
   try simp only [hS, hE, ne_eq] at hb
   first | rw [if_pos hb2] at h | rw [if_neg (Bool.eq_false_iff.1 hb2)] at h | rw [if_pos hb] at h | rw [if_neg hb] at h | (simp only [hb, hT, reduceIte] at h) | skip
   refine L.Gy hb2 (Y.fa (off := 2) Try.underlying28 Y22) ?_
   refine L.Gs hb2 (S.ld Try.underlying22) ?_
   refine L.Gy hb2 (Y.fa (off := 2) Try.underlying28 Y22) ?_
   refine L.Gs hb2 (S.ld Try.underlying22) ?_
   obtain ⟨t357, hc3, h⟩ := Option.bind_eq_some_iff.1 h
   refine L.GC hb2 (C.callE (l := true) [] Try.func26 (laws_vSame.ac _ _ _ _ hc3) .nil ?_)
   refine L.Y (Y.pk (c := true) hb2) ?_
   refine L.Y Y.asg ?_
   refine AList.nil ?_
   obtain rfl := Option.some.inj h
   refine AWp.ret ?_
   exact ⟨.inr rfl, [(4, _)], _, ⟨rfl, rfl⟩, IsPart.at [] [] base0 .nil (E.c .nil)⟩
  ·
   have hb2 := hb
   try simp only [hS, hE, ne_eq] at hb
   first | rw [if_pos hb2] at h | rw [if_neg (Bool.eq_false_iff.1 hb2)] at h | rw [if_pos hb] at h | rw [if_neg hb] at h | (simp only [hb, hT, reduceIte] at h) | skip
   refine L.Gn hb2 ?_
   refine L.Gn hb2 ?_
   refine L.Gn hb2 ?_
   refine L.Gn hb2 ?_
   refine L.Gn hb2 ?_
   refine L.Y (Y.pk (c := false) hb2) ?_
   refine L.Y Y.asg ?_
   refine AList.nil ?_
   obtain rfl := Option.some.inj h
   refine AWp.ret ?_
   exact ⟨.inr rfl, [(4, _)], _, ⟨rfl, rfl⟩, IsPart.at [] [] base0 .nil (E.c .nil)⟩
 ·
  have hb1 := hb
  try simp only [hS, hE, ne_eq] at hb
  first | rw [if_pos hb1] at h | rw [if_neg (Bool.eq_false_iff.1 hb1)] at h | rw [if_pos hb] at h | rw [if_neg hb] at h | (simp only [hb, hT, reduceIte] at h) | skip
  refine L.Gn hb1 ?_
  refine L.Gn hb1 ?_
  refine L.Gn hb1 ?_
  refine L.Gn hb1 ?_
  refine L.Gn hb1 ?_
  refine L.Y (Y.pk (c := false) hb1) ?_
  refine L.Y Y.mv ?_
  refine L.Gc (fun hb => ?_) (fun hb => ?_)
  ·
   exact DD hb
  have hb4 := hb
  refine L.Gn hb4 ?_
  refine L.Gn hb4 ?_
  refine L.Gn hb4 ?_
  refine L.Gn hb4 ?_
  refine L.Gn hb4 ?_
  refine L.Y (Y.pk (c := false) hb4) ?_
  refine L.Y Y.asg ?_
  refine AList.nil ?_
  obtain rfl := Option.some.inj h
  refine AWp.ret ?_
  exact ⟨.inr rfl, [(4, _)], _, ⟨rfl, rfl⟩, IsPart.at [] [] base0 .nil (E.c .nil)⟩

/-! ### impl_Table_fourCells: function 57 -/
mutual
def impl_Table_fourCells.l0 : Nat → Int → Int → Int → Int → List Int → Option (List Int)
 | 0, _, _, _, _, _ => none
 | k + 1, x8, x9, x359000, x359001, x359002 => if x9 < x8 then (impl_Table_fourCells.l1 k x9 x8 x9 x359001 0 x359000 x359001 x359002) else (some ([] : List Int))
def impl_Table_fourCells.l1 : Nat → Int → Int → Int → Int → Int → Int → Int → List Int → Option (List Int)
 | 0, _, _, _, _, _, _, _, _ => none
 | k + 1, x3, x8, x9, x13, x14, x359000, x359001, x359002 => if x14 < x13 then (impl_Table_fourCells.l2 k x3 x14 x8 x9 x13 x14 x359000 0 x359000 x359001 x359002) else (impl_Table_fourCells.l0 k x8 (wrap64 (x9 + 1)) x359000 x359001 x359002)
def impl_Table_fourCells.l2 : Nat → Int → Int → Int → Int → Int → Int → Int → Int → Int → Int → List Int → Option (List Int)
 | 0, _, _, _, _, _, _, _, _, _, _, _ => none
 | k + 1, x3, x4, x8, x9, x13, x14, x18, x19, x359000, x359001, x359002 => if x19 < x18 then (impl_Table_fourCells.l3 k x3 x4 x19 x8 x9 x13 x14 x18 x19 x359001 0 x359000 x359001 x359002) else (impl_Table_fourCells.l1 k x3 x8 x9 x13 (wrap64 (x14 + 1)) x359000 x359001 x359002)
def impl_Table_fourCells.l3 : Nat → Int → Int → Int → Int → Int → Int → Int → Int → Int → Int → Int → Int → Int → List Int → Option (List Int)
 | 0, _, _, _, _, _, _, _, _, _, _, _, _, _, _ => none
 | k + 1, x3, x4, x5, x8, x9, x13, x14, x18, x19, x23, x24, x359000, x359001, x359002 => if x24 < x23 then ((impl_Table_marked.f x359000 x359001 x359002 x3 x4).bind fun t359 => (if t359 = true then ((impl_Table_marked.f x359000 x359001 x359002 x3 x24).bind fun t360 => (if t360 = true then (impl_Table_fourCells.l3 k x3 x4 x5 x8 x9 x13 x14 x18 x19 x23 (wrap64 (x24 + 1)) x359000 x359001 x359002) else ((impl_Table_marked.f x359000 x359001 x359002 x5 x24).bind fun t361 => (if t361 = true then ((impl_Table_marked.f x359000 x359001 x359002 x5 x4).bind fun t362 => (if t362 = true then (impl_Table_fourCells.l3 k x3 x4 x5 x8 x9 x13 x14 x18 x19 x23 (wrap64 (x24 + 1)) x359000 x359001 x359002) else ((some (([x3, x4, x5, x24] : List Int) : List Int)).bind fun y363 => (if y363 = [] then (none) else (some y363))))) else (impl_Table_fourCells.l3 k x3 x4 x5 x8 x9 x13 x14 x18 x19 x23 (wrap64 (x24 + 1)) x359000 x359001 x359002))))) else (impl_Table_fourCells.l3 k x3 x4 x5 x8 x9 x13 x14 x18 x19 x23 (wrap64 (x24 + 1)) x359000 x359001 x359002))) else (impl_Table_fourCells.l2 k x3 x4 x8 x9 x13 x14 x18 (wrap64 (x19 + 1)) x359000 x359001 x359002)
end
def impl_Table_fourCells.f (k : Nat) (a0_0 : Int) (a0_1 : Int) (l0_2 : List Int) : Option (List Int) := impl_Table_fourCells.l0 k a0_0 0 a0_0 a0_1 l0_2
set_option maxRecDepth 100000 in
set_option maxHeartbeats 20000000 in
theorem impl_Table_fourCells.acq (k : Nat) (a0_0 : Int) (a0_1 : Int) (l0_2 : List Int) (r : List Int) (h : impl_Table_fourCells.f k a0_0 a0_1 l0_2 = some r) :
  ACalls Try.prog 57 [.agg [.lit (.int .i64 a0_0), .lit (.int .i64 a0_1), .row 1 l0_2.length false (ints .i64 l0_2)]] [] (fun v H' => (r = [] ∧ v = .lit (.slice none 0 0) ∧ H' = []) ∨ (r ≠ [] ∧ v = .own 0 r.length ∧ H' = [.sl 3 1 r.length true (ints .i64 r)])) := by
 refine ACalls.ofP [2] Try.func57 rfl (by exact Nat.le_of_ble_eq_true rfl) rfl (by decide) ?_
 simp only [Try.ntmps57, env0, impl_Table_fourCells.f] at h ⊢
 refine AWp.seq ?_
 refine AWp.region ?_
 refine L.M M.bx ?_
 refine L.Y Y.asg ?_
 refine AList.nil ?_
 refine AWp.seq ?_
 refine AWp.seq ?_
 refine AWp.region ?_
 refine L.Y (Y.fa (off := 0) Try.underlying28 Y3) ?_
 refine L.S (S.ld Try.underlying3) ?_
 refine L.Y Y.mv ?_
 refine AList.nil ?_
 refine AWp.block ?_
 refine AWp.loopI (fun kk e H => kk ≤ k ∧ ∃ (x8 : Int) (x9 : Int) (x359000 : Int) (x359001 : Int), e = [(1, .ptr 0 0), (8, .lit (.int .i64 x8)), (9, .lit (.int .i64 x9))] ∧ H = [.bx 28 [.lit (.int .i64 x359000), .lit (.int .i64 x359001), .row 1 l0_2.length false (ints .i64 l0_2)]] ∧ impl_Table_fourCells.l0 kk x8 x9 x359000 x359001 l0_2 = some r) (k := k)
  ⟨_, _, ⟨Nat.le_refl _, _, _, _, _, rfl, rfl, h⟩, IsPart.at [] [0] base0 (H.c .nil) (E.c (E.c (E.c .nil)))⟩ ?_
 clear h
 rintro k1 e H ⟨hk2, x8, x9, x359000, x359001, rfl, rfl, h⟩
 cases k1 with
 | zero => exact absurd h (by simp [impl_Table_fourCells.l0])
 | succ k1 =>
 simp only [impl_Table_fourCells.l0] at h
 refine AWp.seq ?_
 refine AWp.region ?_
 refine L.Y Y.bin ?_
 refine AList.nil ?_
 refine AWp.seq ?_
 refine W.cond (fun hb => ?_) (fun hb => ?_)
 ·
  have hb3 := hb
  try simp only [hS, hE, ne_eq] at hb
  first | rw [if_pos hb3] at h | rw [if_neg (Bool.eq_false_iff.1 hb3)] at h | rw [if_pos hb] at h | rw [if_neg hb] at h | (simp only [hb, hT, reduceIte] at h) | skip
  refine AWp.skip ?_
  refine AWp.seq ?_
  refine AWp.block ?_
  refine AWp.seq ?_
  refine AWp.region ?_
  refine L.Y Y.mv ?_
  refine L.Y Y.asg ?_
  refine AList.nil ?_
  refine AWp.seq ?_
  refine AWp.region ?_
  refine L.Y (Y.fa (off := 1) Try.underlying28 Y3) ?_
  refine L.S (S.ld Try.underlying3) ?_
  refine L.Y Y.mv ?_
  refine AList.nil ?_
  refine AWp.block ?_
  refine AWp.loopI (fun kk e H => kk ≤ k1 ∧ ∃ (x3 : Int) (x8 : Int) (x9 : Int) (x13 : Int) (x14 : Int) (x359000 : Int) (x359001 : Int), e = [(1, .ptr 0 0), (3, .lit (.int .i64 x3)), (8, .lit (.int .i64 x8)), (9, .lit (.int .i64 x9)), (13, .lit (.int .i64 x13)), (14, .lit (.int .i64 x14))] ∧ H = [.bx 28 [.lit (.int .i64 x359000), .lit (.int .i64 x359001), .row 1 l0_2.length false (ints .i64 l0_2)]] ∧ impl_Table_fourCells.l1 kk x3 x8 x9 x13 x14 x359000 x359001 l0_2 = some r) (k := k1)
   ⟨_, _, ⟨Nat.le_refl _, _, _, _, _, _, _, _, rfl, rfl, h⟩, IsPart.at [] [0] base0 (H.c .nil) (E.c (E.c (E.c (E.c (E.c (E.c .nil))))))⟩ ?_
  clear h
  rintro k4 e H ⟨hk5, x3, x8, x9, x13, x14, x359000, x359001, rfl, rfl, h⟩
  cases k4 with
  | zero => exact absurd h (by simp [impl_Table_fourCells.l1])
  | succ k4 =>
  simp only [impl_Table_fourCells.l1] at h
  refine AWp.seq ?_
  refine AWp.region ?_
  refine L.Y Y.bin ?_
  refine AList.nil ?_
  refine AWp.seq ?_
  refine W.cond (fun hb => ?_) (fun hb => ?_)
  ·
   have hb6 := hb
   try simp only [hS, hE, ne_eq] at hb
   first | rw [if_pos hb6] at h | rw [if_neg (Bool.eq_false_iff.1 hb6)] at h | rw [if_pos hb] at h | rw [if_neg hb] at h | (simp only [hb, hT, reduceIte] at h) | skip
   refine AWp.skip ?_
   refine AWp.seq ?_
   refine AWp.block ?_
   refine AWp.seq ?_
   refine AWp.region ?_
   refine L.Y Y.mv ?_
   refine L.Y Y.asg ?_
   refine AList.nil ?_
   refine AWp.seq ?_
   refine AWp.region ?_
   refine L.Y (Y.fa (off := 0) Try.underlying28 Y3) ?_
   refine L.S (S.ld Try.underlying3) ?_
   refine L.Y Y.mv ?_
   refine AList.nil ?_
   refine AWp.block ?_
   refine AWp.loopI (fun kk e H => kk ≤ k4 ∧ ∃ (x3 : Int) (x4 : Int) (x8 : Int) (x9 : Int) (x13 : Int) (x14 : Int) (x18 : Int) (x19 : Int) (x359000 : Int) (x359001 : Int), e = [(1, .ptr 0 0), (3, .lit (.int .i64 x3)), (4, .lit (.int .i64 x4)), (8, .lit (.int .i64 x8)), (9, .lit (.int .i64 x9)), (13, .lit (.int .i64 x13)), (14, .lit (.int .i64 x14)), (18, .lit (.int .i64 x18)), (19, .lit (.int .i64 x19))] ∧ H = [.bx 28 [.lit (.int .i64 x359000), .lit (.int .i64 x359001), .row 1 l0_2.length false (ints .i64 l0_2)]] ∧ impl_Table_fourCells.l2 kk x3 x4 x8 x9 x13 x14 x18 x19 x359000 x359001 l0_2 = some r) (k := k4)
    ⟨_, _, ⟨Nat.le_refl _, _, _, _, _, _, _, _, _, _, _, rfl, rfl, h⟩, IsPart.at [] [0] base0 (H.c .nil) (E.c (E.c (E.c (E.c (E.c (E.c (E.c (E.c (E.c .nil)))))))))⟩ ?_
   clear h
   rintro k7 e H ⟨hk8, x3, x4, x8, x9, x13, x14, x18, x19, x359000, x359001, rfl, rfl, h⟩
   cases k7 with
   | zero => exact absurd h (by simp [impl_Table_fourCells.l2])
   | succ k7 =>
   simp only [impl_Table_fourCells.l2] at h
   refine AWp.seq ?_
   refine AWp.region ?_
   refine L.Y Y.bin ?_
   refine AList.nil ?_
   refine AWp.seq ?_
   refine W.cond (fun hb => ?_) (fun hb => ?_)
   ·
    have hb9 := hb
    try simp only [hS, hE, ne_eq] at hb
    first | rw [if_pos hb9] at h | rw [if_neg (Bool.eq_false_iff.1 hb9)] at h | rw [if_pos hb] at h | rw [if_neg hb] at h | (simp only [hb, hT, reduceIte] at h) | skip
    refine AWp.skip ?_
    refine AWp.seq ?_
    refine AWp.block ?_
    refine AWp.seq ?_
    refine AWp.region ?_
    refine L.Y Y.mv ?_
    refine L.Y Y.asg ?_
    refine AList.nil ?_
    refine AWp.seq ?_
    refine AWp.region ?_
    refine L.Y (Y.fa (off := 1) Try.underlying28 Y3) ?_
    refine L.S (S.ld Try.underlying3) ?_
    refine L.Y Y.mv ?_
    refine AList.nil ?_
    refine AWp.block ?_
    refine AWp.loopI (fun kk e H => kk ≤ k7 ∧ ∃ (x3 : Int) (x4 : Int) (x5 : Int) (x8 : Int) (x9 : Int) (x13 : Int) (x14 : Int) (x18 : Int) (x19 : Int) (x23 : Int) (x24 : Int) (x359000 : Int) (x359001 : Int), e = [(1, .ptr 0 0), (3, .lit (.int .i64 x3)), (4, .lit (.int .i64 x4)), (5, .lit (.int .i64 x5)), (8, .lit (.int .i64 x8)), (9, .lit (.int .i64 x9)), (13, .lit (.int .i64 x13)), (14, .lit (.int .i64 x14)), (18, .lit (.int .i64 x18)), (19, .lit (.int .i64 x19)), (23, .lit (.int .i64 x23)), (24, .lit (.int .i64 x24))] ∧ H = [.bx 28 [.lit (.int .i64 x359000), .lit (.int .i64 x359001), .row 1 l0_2.length false (ints .i64 l0_2)]] ∧ impl_Table_fourCells.l3 kk x3 x4 x5 x8 x9 x13 x14 x18 x19 x23 x24 x359000 x359001 l0_2 = some r) (k := k7)
     ⟨_, _, ⟨Nat.le_refl _, _, _, _, _, _, _, _, _, _, _, _, _, _, rfl, rfl, h⟩, IsPart.at [] [0] base0 (H.c .nil) (E.c (E.c (E.c (E.c (E.c (E.c (E.c (E.c (E.c (E.c (E.c (E.c .nil))))))))))))⟩ ?_
    clear h
    rintro k10 e H ⟨hk11, x3, x4, x5, x8, x9, x13, x14, x18, x19, x23, x24, x359000, x359001, rfl, rfl, h⟩
    cases k10 with
    | zero => exact absurd h (by simp [impl_Table_fourCells.l3])
    | succ k10 =>
    simp only [impl_Table_fourCells.l3] at h
    refine AWp.seq ?_
    refine AWp.region ?_
    refine L.Y Y.bin ?_
    refine AList.nil ?_
    refine AWp.seq ?_
    refine W.cond (fun hb => ?_) (fun hb => ?_)
    ·
     have hb12 := hb
     try simp only [hS, hE, ne_eq] at hb
     first | rw [if_pos hb12] at h | rw [if_neg (Bool.eq_false_iff.1 hb12)] at h | rw [if_pos hb] at h | rw [if_neg hb] at h | (simp only [hb, hT, reduceIte] at h) | skip
     refine AWp.skip ?_
     refine AWp.seq ?_
     refine AWp.block ?_
     refine AWp.seq ?_
     refine AWp.region ?_
     refine L.Y Y.mv ?_
     refine L.Y Y.asg ?_
     refine AList.nil ?_
     refine AWp.seq ?_
     refine AWp.region ?_
     refine L.S (S.ldN Try.underlying28 Y28) ?_
     refine L.Y Y.mv ?_
     refine L.Y Y.mv ?_
     obtain ⟨t359, hc13, h⟩ := Option.bind_eq_some_iff.1 h
     refine L.C (C.callE (l := true) [] Try.func60 (impl_Table_marked.ac _ _ _ _ _ _ hc13) .nil ?_)
     refine L.Y Y.mv ?_
     refine L.Gc (fun hb => ?_) (fun hb => ?_)
     ·
      have hb14 := hb
      try simp only [hS, hE, ne_eq] at hb
      first | rw [if_pos hb14] at h | rw [if_neg (Bool.eq_false_iff.1 hb14)] at h | rw [if_pos hb] at h | rw [if_neg hb] at h | (simp only [hb, hT, reduceIte] at h) | skip
      refine L.Gs hb14 (S.ldN Try.underlying28 Y28) ?_
      refine L.Gy hb14 Y.mv ?_
      refine L.Gy hb14 Y.mv ?_
      obtain ⟨t360, hc15, h⟩ := Option.bind_eq_some_iff.1 h
      refine L.GC hb14 (C.callE (l := true) [] Try.func60 (impl_Table_marked.ac _ _ _ _ _ _ hc15) .nil ?_)
      refine L.Gy hb14 Y.nt ?_
      refine L.Y (Y.pk (c := true) hb14) ?_
      refine L.Y Y.mv ?_
      refine L.Gc (fun hb => ?_) (fun hb => ?_)
      ·
       have hb16 := hb
       try simp only [hS, hE, ne_eq] at hb
       first | rw [if_pos hb16] at h | rw [if_neg (Bool.eq_false_iff.1 hb16)] at h | rw [if_pos hb] at h | rw [if_neg hb] at h | (simp only [hb, hT, reduceIte] at h) | skip
       refine L.Gs hb16 (S.ldN Try.underlying28 Y28) ?_
       refine L.Gy hb16 Y.mv ?_
       refine L.Gy hb16 Y.mv ?_
       obtain ⟨t361, hc17, h⟩ := Option.bind_eq_some_iff.1 h
       refine L.GC hb16 (C.callE (l := true) [] Try.func60 (impl_Table_marked.ac _ _ _ _ _ _ hc17) .nil ?_)
       refine L.Y (Y.pk (c := true) hb16) ?_
       refine L.Y Y.mv ?_
       refine L.Gc (fun hb => ?_) (fun hb => ?_)
       ·
        have hb18 := hb
        try simp only [hS, hE, ne_eq] at hb
        first | rw [if_pos hb18] at h | rw [if_neg (Bool.eq_false_iff.1 hb18)] at h | rw [if_pos hb] at h | rw [if_neg hb] at h | (simp only [hb, hT, reduceIte] at h) | skip
        refine L.Gs hb18 (S.ldN Try.underlying28 Y28) ?_
        refine L.Gy hb18 Y.mv ?_
        refine L.Gy hb18 Y.mv ?_
        obtain ⟨t362, hc19, h⟩ := Option.bind_eq_some_iff.1 h
        refine L.GC hb18 (C.callE (l := true) [] Try.func60 (impl_Table_marked.ac _ _ _ _ _ _ hc19) .nil ?_)
        refine L.Gy hb18 Y.nt ?_
        refine L.Y (Y.pk (c := true) hb18) ?_
        refine AList.nil ?_
        refine W.cond (fun hb => ?_) (fun hb => ?_)
        ·
         have hb20 := hb
         try simp only [hS, hE, ne_eq] at hb
         first | rw [if_pos hb20] at h | rw [if_neg (Bool.eq_false_iff.1 hb20)] at h | rw [if_pos hb] at h | rw [if_neg hb] at h | (simp only [hb, hT, reduceIte] at h) | skip
         repeat (first | (rw [iN] at h; obtain ⟨_, h⟩ := h) | (rw [iP] at h; obtain ⟨_, h⟩ := h) | (simp only [bS] at h))
         refine AWp.seq ?_
         refine W.kp [1, 3, 4, 5, 6, 8, 9, 13, 14, 18, 19, 23, 24, 25, 50] ?_
         refine AWp.region ?_
         refine L.Y Y.mv ?_
         refine L.Y Y.mv ?_
         refine L.Y Y.mv ?_
         refine L.Y Y.mv ?_
         refine L.M (M.bs Try.underlying22 Y3) ?_
         refine L.Y Y.asg ?_
         refine AList.nil ?_
         obtain rfl := Option.some.inj h
         refine AWp.ret ?_
         exact ⟨.inr rfl, [(2, _)], _, .inr ⟨by first | assumption | simp, rfl, rfl⟩, IsPart.at [] [1] base0 (H.c .nil) (E.c .nil)⟩
        ·
         have hb20 := hb
         try simp only [hS, hE, ne_eq] at hb
         first | rw [if_pos hb20] at h | rw [if_neg (Bool.eq_false_iff.1 hb20)] at h | rw [if_pos hb] at h | rw [if_neg hb] at h | (simp only [hb, hT, reduceIte] at h) | skip
         refine AWp.skip ?_
         refine W.kp [1, 3, 4, 5, 6, 8, 9, 13, 14, 18, 19, 23, 24, 25, 50] ?_
         refine AWp.region ?_
         refine L.Y Y.bin ?_
         refine L.Y Y.mv ?_
         refine AList.nil ?_
         exact ⟨k10, by omega, _, _, ⟨by omega, _, _, _, _, _, _, _, _, _, _, _, _, _, rfl, rfl, h⟩, IsPart.at [] [0] base0 (H.c .nil) (E.c (E.c (E.c (E.c (E.c (E.c (E.c (E.c (E.c (E.c (E.c (E.c .nil))))))))))))⟩
       ·
        have hb18 := hb
        try simp only [hS, hE, ne_eq] at hb
        first | rw [if_pos hb18] at h | rw [if_neg (Bool.eq_false_iff.1 hb18)] at h | rw [if_pos hb] at h | rw [if_neg hb] at h | (simp only [hb, hT, reduceIte] at h) | skip
        refine L.Gn hb18 ?_
        refine L.Gn hb18 ?_
        refine L.Gn hb18 ?_
        refine L.Gn hb18 ?_
        refine L.Gn hb18 ?_
        refine L.Y (Y.pk (c := false) hb18) ?_
        refine AList.nil ?_
        refine W.cond (fun hb => ?_) (fun hb => ?_)
        ·
         exact DD hb
        have hb21 := hb
        refine AWp.skip ?_
        refine W.kp [1, 3, 4, 5, 6, 8, 9, 13, 14, 18, 19, 23, 24, 25, 50] ?_
        refine AWp.region ?_
        refine L.Y Y.bin ?_
        refine L.Y Y.mv ?_
        refine AList.nil ?_
        exact ⟨k10, by omega, _, _, ⟨by omega, _, _, _, _, _, _, _, _, _, _, _, _, _, rfl, rfl, h⟩, IsPart.at [] [0] base0 (H.c .nil) (E.c (E.c (E.c (E.c (E.c (E.c (E.c (E.c (E.c (E.c (E.c (E.c .nil))))))))))))⟩
      ·
       have hb16 := hb
       try simp only [hS, hE, ne_eq] at hb
       first | rw [if_pos hb16] at h | rw [if_neg (Bool.eq_false_iff.1 hb16)] at h | rw [if_pos hb] at h | rw [if_neg hb] at h | (simp only [hb, hT, reduceIte] at h) | skip
       refine L.Gn hb16 ?_
       refine L.Gn hb16 ?_
       refine L.Gn hb16 ?_
       refine L.Gn hb16 ?_
       refine L.Y (Y.pk (c := false) hb16) ?_
       refine L.Y Y.mv ?_
       refine L.Gc (fun hb => ?_) (fun hb => ?_)
       ·
        exact DD hb
       have hb22 := hb
       refine L.Gn hb22 ?_
       refine L.Gn hb22 ?_
       refine L.Gn hb22 ?_
       refine L.Gn hb22 ?_
       refine L.Gn hb22 ?_
       refine L.Y (Y.pk (c := false) hb22) ?_
       refine AList.nil ?_
       refine W.cond (fun hb => ?_) (fun hb => ?_)
       ·
        exact DD hb
       have hb23 := hb
       refine AWp.skip ?_
       refine W.kp [1, 3, 4, 5, 6, 8, 9, 13, 14, 18, 19, 23, 24, 25, 50] ?_
       refine AWp.region ?_
       refine L.Y Y.bin ?_
       refine L.Y Y.mv ?_
       refine AList.nil ?_
       exact ⟨k10, by omega, _, _, ⟨by omega, _, _, _, _, _, _, _, _, _, _, _, _, _, rfl, rfl, h⟩, IsPart.at [] [0] base0 (H.c .nil) (E.c (E.c (E.c (E.c (E.c (E.c (E.c (E.c (E.c (E.c (E.c (E.c .nil))))))))))))⟩
     ·
      have hb14 := hb
      try simp only [hS, hE, ne_eq] at hb
      first | rw [if_pos hb14] at h | rw [if_neg (Bool.eq_false_iff.1 hb14)] at h | rw [if_pos hb] at h | rw [if_neg hb] at h | (simp only [hb, hT, reduceIte] at h) | skip
      refine L.Gn hb14 ?_
      refine L.Gn hb14 ?_
      refine L.Gn hb14 ?_
      refine L.Gn hb14 ?_
      refine L.Gn hb14 ?_
      refine L.Y (Y.pk (c := false) hb14) ?_
      refine L.Y Y.mv ?_
      refine L.Gc (fun hb => ?_) (fun hb => ?_)
      ·
       exact DD hb
      have hb24 := hb
      refine L.Gn hb24 ?_
      refine L.Gn hb24 ?_
      refine L.Gn hb24 ?_
      refine L.Gn hb24 ?_
      refine L.Y (Y.pk (c := false) hb24) ?_
      refine L.Y Y.mv ?_
      refine L.Gc (fun hb => ?_) (fun hb => ?_)
      ·
       exact DD hb
      have hb25 := hb
      refine L.Gn hb25 ?_
      refine L.Gn hb25 ?_
      refine L.Gn hb25 ?_
      refine L.Gn hb25 ?_
      refine L.Gn hb25 ?_
      refine L.Y (Y.pk (c := false) hb25) ?_
      refine AList.nil ?_
      refine W.cond (fun hb => ?_) (fun hb => ?_)
      ·
       exact DD hb
      have hb26 := hb
      refine AWp.skip ?_
      refine W.kp [1, 3, 4, 5, 6, 8, 9, 13, 14, 18, 19, 23, 24, 25, 50] ?_
      refine AWp.region ?_
      refine L.Y Y.bin ?_
      refine L.Y Y.mv ?_
      refine AList.nil ?_
      exact ⟨k10, by omega, _, _, ⟨by omega, _, _, _, _, _, _, _, _, _, _, _, _, _, rfl, rfl, h⟩, IsPart.at [] [0] base0 (H.c .nil) (E.c (E.c (E.c (E.c (E.c (E.c (E.c (E.c (E.c (E.c (E.c (E.c .nil))))))))))))⟩
    ·
     have hb12 := hb
     try simp only [hS, hE, ne_eq] at hb
     first | rw [if_pos hb12] at h | rw [if_neg (Bool.eq_false_iff.1 hb12)] at h | rw [if_pos hb] at h | rw [if_neg hb] at h | (simp only [hb, hT, reduceIte] at h) | skip
     refine AWp.exit ?_
     refine AWp.region ?_
     refine L.Y Y.bin ?_
     refine L.Y Y.mv ?_
     refine AList.nil ?_
     exact ⟨k10, by omega, _, _, ⟨by omega, _, _, _, _, _, _, _, _, _, _, rfl, rfl, h⟩, IsPart.at [] [0] base0 (H.c .nil) (E.c (E.c (E.c (E.c (E.c (E.c (E.c (E.c (E.c .nil)))))))))⟩
   ·
    have hb9 := hb
    try simp only [hS, hE, ne_eq] at hb
    first | rw [if_pos hb9] at h | rw [if_neg (Bool.eq_false_iff.1 hb9)] at h | rw [if_pos hb] at h | rw [if_neg hb] at h | (simp only [hb, hT, reduceIte] at h) | skip
    refine AWp.exit ?_
    refine AWp.region ?_
    refine L.Y Y.bin ?_
    refine L.Y Y.mv ?_
    refine AList.nil ?_
    exact ⟨k7, by omega, _, _, ⟨by omega, _, _, _, _, _, _, _, rfl, rfl, h⟩, IsPart.at [] [0] base0 (H.c .nil) (E.c (E.c (E.c (E.c (E.c (E.c .nil))))))⟩
  ·
   have hb6 := hb
   try simp only [hS, hE, ne_eq] at hb
   first | rw [if_pos hb6] at h | rw [if_neg (Bool.eq_false_iff.1 hb6)] at h | rw [if_pos hb] at h | rw [if_neg hb] at h | (simp only [hb, hT, reduceIte] at h) | skip
   refine AWp.exit ?_
   refine AWp.region ?_
   refine L.Y Y.bin ?_
   refine L.Y Y.mv ?_
   refine AList.nil ?_
   exact ⟨k4, by omega, _, _, ⟨by omega, _, _, _, _, rfl, rfl, h⟩, IsPart.at [] [0] base0 (H.c .nil) (E.c (E.c (E.c .nil)))⟩
 ·
  have hb3 := hb
  try simp only [hS, hE, ne_eq] at hb
  first | rw [if_pos hb3] at h | rw [if_neg (Bool.eq_false_iff.1 hb3)] at h | rw [if_pos hb] at h | rw [if_neg hb] at h | (simp only [hb, hT, reduceIte] at h) | skip
  refine AWp.exit ?_
  refine AWp.seq ?_
  refine AWp.region ?_
  refine L.Y Y.asg ?_
  refine AList.nil ?_
  obtain rfl := Option.some.inj h
  refine AWp.ret ?_
  exact ⟨.inr rfl, [(2, _)], _, .inl ⟨rfl, rfl, rfl⟩, IsPart.at [] [] base0 .nil (E.c .nil)⟩

/-! ### impl_IsBiorder: function 27 -/
def impl_IsBiorder.f (k : Nat) (a0_0 : Int) (a0_1 : Int) (l0_2 : List Int) : Option (Bool × Bool) := (impl_IsTable.f k a0_0 a0_1 l0_2).bind fun t367 => (if t367 = true then ((impl_Table_fourCells.f k a0_0 a0_1 l0_2).bind fun t368 => (if t368 = [] then (some (true, true)) else (some (false, true)))) else (some (false, false)))
set_option maxRecDepth 100000 in
set_option maxHeartbeats 20000000 in
theorem impl_IsBiorder.ac (k : Nat) (a0_0 : Int) (a0_1 : Int) (l0_2 : List Int) (r1 : Bool) (r2 : Bool) (h : impl_IsBiorder.f k a0_0 a0_1 l0_2 = some (r1, r2)) :
  ACalls Try.prog 27 [.agg [.lit (.int .i64 a0_0), .lit (.int .i64 a0_1), .row 1 l0_2.length false (ints .i64 l0_2)]] [] (fun v H' => v = .tup [.lit (.bool r1), .lit (.bool r2)] ∧ H' = []) := by
 refine ACalls.ofP [2, 3] Try.func27 rfl (by exact Nat.le_of_ble_eq_true rfl) rfl (by decide) ?_
 simp only [Try.ntmps27, env0, impl_IsBiorder.f] at h ⊢
 refine AWp.seq ?_
 refine AWp.region ?_
 refine L.M M.bx ?_
 refine L.Y Y.asg ?_
 refine L.Y Y.asg ?_
 refine AList.nil ?_
 refine AWp.seq ?_
 refine AWp.seq ?_
 refine AWp.region ?_
 refine L.S (S.ldN Try.underlying28 Y28) ?_
 obtain ⟨t367, hc1, h⟩ := Option.bind_eq_some_iff.1 h
 refine L.C (C.callE (l := true) [] Try.func52 (impl_IsTable.ac _ _ _ _ _ hc1) .nil ?_)
 refine L.Y Y.nt ?_
 refine AList.nil ?_
 refine W.cond (fun hb => ?_) (fun hb => ?_)
 ·
  have hb2 := hb
  try simp only [hS, hE, ne_eq] at hb
  first | rw [if_pos hb2] at h | rw [if_neg (Bool.eq_false_iff.1 hb2)] at h | rw [if_pos hb] at h | rw [if_neg hb] at h | (simp only [hb, hT, reduceIte] at h) | skip
  refine AWp.seq ?_
  refine AWp.region ?_
  refine L.Y Y.asg ?_
  refine L.Y Y.asg ?_
  refine AList.nil ?_
  simp only [Option.some.injEq, Prod.mk.injEq] at h
  obtain ⟨rfl, rfl⟩ := h
  refine AWp.ret ?_
  exact ⟨.inr rfl, [(2, _), (3, _)], _, ⟨rfl, rfl⟩, IsPart.at [] [] base0 .nil (E.c (E.c .nil))⟩
 ·
  have hb2 := hb
  try simp only [hS, hE, ne_eq] at hb
  first | rw [if_pos hb2] at h | rw [if_neg (Bool.eq_false_iff.1 hb2)] at h | rw [if_pos hb] at h | rw [if_neg hb] at h | (simp only [hb, hT, reduceIte] at h) | skip
  refine AWp.skip ?_
  refine AWp.seq ?_
  refine AWp.region ?_
  refine L.S (S.ldN Try.underlying28 Y28) ?_
  obtain ⟨t368, hc3, h⟩ := Option.bind_eq_some_iff.1 h
  rcases Classical.em (t368 = []) with hq | hq
  ·
   have hq0 : t368.length = 0 := by rw [hq]; rfl
   have hq1 : (ints .i64 t368) = [] := by rw [hq]; rfl
   refine L.C (C.callE (l := true) [] Try.func57 ((impl_Table_fourCells.acq _ _ _ _ _ hc3).conseq (fun _ _ q => q.elim (fun z => z.2) (fun z => absurd hq z.1))) .nil ?_)
   refine L.Y (Y.nq Try.underlying22) ?_
   refine L.Y Y.asg ?_
   refine L.Y Y.asg ?_
   refine AList.nil ?_
   rw [if_pos hq] at h
   simp only [Option.some.injEq, Prod.mk.injEq] at h
   obtain ⟨rfl, rfl⟩ := h
   refine AWp.ret ?_
   exact ⟨.inr rfl, [(2, _), (3, _)], _, ⟨rfl, rfl⟩, IsPart.at [] [] base0 .nil (E.c (E.c .nil))⟩
  ·
   skip
   refine L.C (C.callE (l := true) [] Try.func57 ((impl_Table_fourCells.acq _ _ _ _ _ hc3).conseq (fun _ _ q => q.elim (fun z => absurd z.1 hq) (fun z => z.2))) .nil ?_)
   refine L.Y (Y.nq Try.underlying22) ?_
   refine L.Y Y.asg ?_
   refine L.Y Y.asg ?_
   refine AList.nil ?_
   rw [if_neg hq] at h
   simp only [Option.some.injEq, Prod.mk.injEq] at h
   obtain ⟨rfl, rfl⟩ := h
   refine AWp.ret ?_
   exact ⟨.inr rfl, [(2, _), (3, _)], _, ⟨rfl, rfl⟩, IsPart.at [] [] base0 .nil (E.c (E.c .nil))⟩

end Go.Proofs.Ytpippjgphndjmaa.PFnCovers
