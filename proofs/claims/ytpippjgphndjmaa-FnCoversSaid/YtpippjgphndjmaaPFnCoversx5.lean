-- Written by a program of this session's (wip/myprint2): the functions by the kit's print, the walks by awgen.py. Lean checks it.
import Derived.Test.YtpippjgphndjmaaPFnCoversx0
import Derived.Test.YtpippjgphndjmaaPFnCoversx4
namespace Go.Proofs.Ytpippjgphndjmaa.PFnCovers
open Go.RowKit Go.Proofs.YtpippjgphndjmaaW.PrintWords Go.Proofs.YtpippjgphndjmaaW.PrintLast Go.Proofs.YtpippjgphndjmaaW.PrintMore Go.Proofs.YtpippjgphndjmaaM Go.Proofs.YtpippjgphndjmaaA
attribute [local go_sem] max2_int min2_int max_two min_two max_three min_three max_four min_four   -- for this text's walks alone
set_option linter.unusedVariables false
set_option linter.unusedSimpArgs false

/-! ### impl_isIncreasing: function 74 -/
def impl_isIncreasing.l0 : Nat → List Int → Int → Option (Bool)
 | 0, _, _ => none
 | k + 1, x0, x3 => if x3 < (x0.length : Int) then (if 0 ≤ (wrap64 (x3 - 1)) then (if (wrap64 (x3 - 1)) < (x0.length : Int) then (if 0 ≤ x3 then (if (rd x0 (wrap64 (x3 - 1))) ≥ (rd x0 x3) then (some false) else (impl_isIncreasing.l0 k x0 (wrap64 (x3 + 1)))) else (none)) else (none)) else (none)) else (some true)
def impl_isIncreasing.f (k : Nat) (l0 : List Int) : Option (Bool) := impl_isIncreasing.l0 k l0 1
set_option maxRecDepth 100000 in
set_option maxHeartbeats 20000000 in
theorem impl_isIncreasing.ac (k : Nat) (l0 : List Int) (r : Bool) (h : impl_isIncreasing.f k l0 = some r) :
  ACalls Try.prog 74 [.row 1 l0.length false (ints .i64 l0)] [] (fun v H' => v = .lit (.bool r) ∧ H' = []) := by
 refine ACalls.ofP [2] Try.func74 rfl (by exact Nat.le_of_ble_eq_true rfl) rfl (by decide) ?_
 simp only [Try.ntmps74, env0, impl_isIncreasing.f] at h ⊢
 refine AWp.seq ?_
 refine AWp.region ?_
 refine L.Y Y.asg ?_
 refine AList.nil ?_
 refine AWp.seq ?_
 refine AWp.seq ?_
 refine AWp.region ?_
 refine L.Y Y.asg ?_
 refine AList.nil ?_
 refine AWp.block ?_
 refine AWp.loopI (fun kk e H => kk ≤ k ∧ ∃ (x3 : Int), e = [(0, .row 1 l0.length false (ints .i64 l0)), (3, .lit (.int .i64 x3))] ∧ H = [] ∧ impl_isIncreasing.l0 kk l0 x3 = some r) (k := k)
  ⟨_, _, ⟨Nat.le_refl _, _, rfl, rfl, h⟩, IsPart.at [] [] base0 .nil (E.c (E.c .nil))⟩ ?_
 clear h
 rintro k1 e H ⟨hk2, x3, rfl, rfl, h⟩
 cases k1 with
 | zero => exact absurd h (by simp [impl_isIncreasing.l0])
 | succ k1 =>
 simp only [impl_isIncreasing.l0] at h
 refine AWp.seq ?_
 refine AWp.seq ?_
 refine AWp.region ?_
 refine L.Y Y.mv ?_
 refine L.Y Y.mv ?_
 refine L.Y (Y.ln Try.underlying22) ?_
 refine L.Y Y.bin ?_
 refine AList.nil ?_
 refine W.cond (fun hb => ?_) (fun hb => ?_)
 ·
  have hb3 := hb
  try simp only [hS, hE, ne_eq] at hb
  first | rw [if_pos hb3] at h | rw [if_neg (Bool.eq_false_iff.1 hb3)] at h | rw [if_pos hb] at h | rw [if_neg hb] at h | (simp only [hb, hT, reduceIte] at h) | skip
  repeat (first | (rw [iN] at h; obtain ⟨_, h⟩ := h) | (rw [iP] at h; obtain ⟨_, h⟩ := h) | (simp only [bS] at h))
  refine AWp.skip ?_
  refine AWp.seq ?_
  refine AWp.block ?_
  refine AWp.seq ?_
  refine Dt.reg [] [] (.y 0 (.y 1 (.y 2 (.y 3 (.t 4 (.y 5 (.y 6 (.y 7 (.t 8 (.y 9 .done)))))))))) HM ?_
  refine Dt.Y rfl wantN Y.mv ?_
  refine Dt.Y rfl wantN Y.mv ?_
  refine Dt.Y rfl wantN Y.bin ?_
  refine Dt.Y rfl wantN (Y.ixr Try.underlying22 Y3) ?_
  refine Dt.T rfl wantN (D.ld Try.underlying3) ?_
  refine Dt.Y rfl wantN Y.mv ?_
  refine Dt.Y rfl wantN Y.mv ?_
  refine Dt.Y rfl wantN (Y.ixr Try.underlying22 Y3) ?_
  refine Dt.T rfl wantN (D.ld Try.underlying3) ?_
  refine Dt.Y rfl wantN Y.bin ?_
  refine Dt.nil ?_
  refine W.cond (fun hb => ?_) (fun hb => ?_)
  ·
   have hb4 := hb
   try simp only [hS, hE, ne_eq] at hb
   first | rw [if_pos hb4] at h | rw [if_neg (Bool.eq_false_iff.1 hb4)] at h | rw [if_pos hb] at h | rw [if_neg hb] at h | (simp only [hb, hT, reduceIte] at h) | skip
   refine AWp.seq ?_
   refine W.kp [0, 3, 7, 19] ?_
   refine AWp.region ?_
   refine L.Y Y.asg ?_
   refine AList.nil ?_
   obtain rfl := Option.some.inj h
   refine AWp.ret ?_
   exact ⟨.inr rfl, [(2, _)], _, ⟨rfl, rfl⟩, IsPart.at [] [] base0 .nil (E.c .nil)⟩
  ·
   have hb4 := hb
   try simp only [hS, hE, ne_eq] at hb
   first | rw [if_pos hb4] at h | rw [if_neg (Bool.eq_false_iff.1 hb4)] at h | rw [if_pos hb] at h | rw [if_neg hb] at h | (simp only [hb, hT, reduceIte] at h) | skip
   refine AWp.skip ?_
   refine W.kp [0, 3, 7, 19] ?_
   refine AWp.region ?_
   refine L.Y Y.mv ?_
   refine L.Y Y.bin ?_
   refine L.Y Y.asg ?_
   refine AList.nil ?_
   exact ⟨k1, by omega, _, _, ⟨by omega, _, rfl, rfl, h⟩, IsPart.at [] [] base0 .nil (E.c (E.c .nil))⟩
 ·
  have hb3 := hb
  try simp only [hS, hE, ne_eq] at hb
  first | rw [if_pos hb3] at h | rw [if_neg (Bool.eq_false_iff.1 hb3)] at h | rw [if_pos hb] at h | rw [if_neg hb] at h | (simp only [hb, hT, reduceIte] at h) | skip
  refine AWp.exit ?_
  refine AWp.seq ?_
  refine AWp.region ?_
  refine L.Y Y.asg ?_
  refine AList.nil ?_
  obtain rfl := Option.some.inj h
  refine AWp.ret ?_
  exact ⟨.inr rfl, [(2, _)], _, ⟨rfl, rfl⟩, IsPart.at [] [] base0 .nil (E.c .nil)⟩

/-! ### impl_Table_areCells: function 53 -/
def impl_Table_areCells.l0 : Nat → List Int → List Int → Int → Int → Int → Int → List Int → Option (Bool)
 | 0, _, _, _, _, _, _, _ => none
 | k + 1, x1, x7, x8, x9, x260000, x260001, x260002 => if x9 < x8 then (if 0 ≤ x9 then (if x9 < (x7.length : Int) then ((impl_within.f (rd x7 x9) 0 (wrap64 ((wrap64 (x260000 * x260001)) - 1))).bind fun t262 => (if t262 = true then (if x260001 = 0 then (none) else ((impl_Table_marked.f x260000 x260001 x260002 (wrap64 (Int.tdiv (rd x7 x9) x260001)) (Int.tmod (rd x7 x9) x260001)).bind fun t263 => (if t263 = true then (some false) else (impl_Table_areCells.l0 k x1 x7 x8 (wrap64 (x9 + 1)) x260000 x260001 x260002)))) else (some false))) else (none)) else (none)) else ((impl_isIncreasing.f k x1).bind fun t260 => (some t260))
def impl_Table_areCells.f (k : Nat) (a0_0 : Int) (a0_1 : Int) (l0_2 : List Int) (l1 : List Int) : Option (Bool) := impl_Table_areCells.l0 k l1 l1 (l1.length : Int) 0 a0_0 a0_1 l0_2
set_option maxRecDepth 100000 in
set_option maxHeartbeats 20000000 in
theorem impl_Table_areCells.ac (k : Nat) (a0_0 : Int) (a0_1 : Int) (l0_2 : List Int) (l1 : List Int) (r : Bool) (h : impl_Table_areCells.f k a0_0 a0_1 l0_2 l1 = some r) :
  ACalls Try.prog 53 [.agg [.lit (.int .i64 a0_0), .lit (.int .i64 a0_1), .row 1 l0_2.length false (ints .i64 l0_2)], .row 1 l1.length false (ints .i64 l1)] [] (fun v H' => v = .lit (.bool r) ∧ H' = []) := by
 refine ACalls.ofP [4] Try.func53 rfl (by exact Nat.le_of_ble_eq_true rfl) rfl (by decide) ?_
 simp only [Try.ntmps53, env0, impl_Table_areCells.f] at h ⊢
 refine AWp.seq ?_
 refine AWp.region ?_
 refine L.M M.bx ?_
 refine L.Y Y.asg ?_
 refine AList.nil ?_
 refine AWp.seq ?_
 refine AWp.seq ?_
 refine AWp.region ?_
 refine L.Y Y.mv ?_
 refine L.Y (Y.ln Try.underlying22) ?_
 refine L.Y Y.mv ?_
 refine AList.nil ?_
 refine AWp.block ?_
 refine AWp.loopI (fun kk e H => kk ≤ k ∧ ∃ (x8 : Int) (x9 : Int) (x260000 : Int) (x260001 : Int), e = [(1, .row 1 l1.length false (ints .i64 l1)), (2, .ptr 0 0), (7, .row 1 l1.length false (ints .i64 l1)), (8, .lit (.int .i64 x8)), (9, .lit (.int .i64 x9))] ∧ H = [.bx 28 [.lit (.int .i64 x260000), .lit (.int .i64 x260001), .row 1 l0_2.length false (ints .i64 l0_2)]] ∧ impl_Table_areCells.l0 kk l1 l1 x8 x9 x260000 x260001 l0_2 = some r) (k := k)
  ⟨_, _, ⟨Nat.le_refl _, _, _, _, _, rfl, rfl, h⟩, IsPart.at [] [0] base0 (H.c .nil) (E.c (E.c (E.c (E.c (E.c .nil)))))⟩ ?_
 clear h
 rintro k1 e H ⟨hk2, x8, x9, x260000, x260001, rfl, rfl, h⟩
 cases k1 with
 | zero => exact absurd h (by simp [impl_Table_areCells.l0])
 | succ k1 =>
 simp only [impl_Table_areCells.l0] at h
 refine AWp.seq ?_
 refine AWp.region ?_
 refine L.Y Y.bin ?_
 refine AList.nil ?_
 refine AWp.seq ?_
 refine W.cond (fun hb => ?_) (fun hb => ?_)
 ·
  have hb3 := hb
  try simp only [hS, hE, ne_eq] at hb
  first | rw [if_pos hb3] at h | rw [if_neg (Bool.eq_false_iff.1 hb3)] at h | rw [if_pos hb] at h | rw [if_neg hb] at h | (simp only [hb, hT, reduceIte] at h) | skip
  repeat (first | (rw [iN] at h; obtain ⟨_, h⟩ := h) | (rw [iP] at h; obtain ⟨_, h⟩ := h) | (simp only [bS] at h))
  refine AWp.skip ?_
  refine AWp.seq ?_
  refine AWp.block ?_
  refine AWp.seq ?_
  refine AWp.region ?_
  refine L.Y (Y.ixr Try.underlying22 Y3) ?_
  refine L.S (S.ld Try.underlying3) ?_
  refine L.Y Y.asg ?_
  refine AList.nil ?_
  refine AWp.seq ?_
  refine Dt.reg [] [] (.y 0 (.y 1 (.t 2 (.y 3 (.t 4 (.y 5 (.y 6 (.one 7 (.y 8 (.y 9 (.t 10 (.y 11 (.y 12 (.t 13 (.y 14 (.y 15 (.y 16 (.t 17 (.y 18 (.one 19 (.y 20 .done))))))))))))))))))))) HM ?_
  refine Dt.Y rfl wantN Y.mv ?_
  refine Dt.Y rfl wantN (Y.fa (off := 0) Try.underlying28 Y3) ?_
  refine Dt.T rfl wantN (D.ld Try.underlying3) ?_
  refine Dt.Y rfl wantN (Y.fa (off := 1) Try.underlying28 Y3) ?_
  refine Dt.T rfl wantN (D.ld Try.underlying3) ?_
  refine Dt.Y rfl wantN Y.bin ?_
  refine Dt.Y rfl wantN Y.bin ?_
  refine Dt.O (g' := false) rfl wantN ?_
  obtain ⟨t262, hc4, h⟩ := Option.bind_eq_some_iff.1 h
  refine Ox.C true [] Try.func47 (impl_within.ac _ _ _ _ hc4) .nil ?_
  refine Dt.Y rfl wantN Y.nt ?_
  refine Dt.Y rfl wantN Y.mv ?_
  refine Dt.F 22 (fun hb => ?_) (fun hb => ?_)
  ·
   have hb5 := hb
   try simp only [hS, hE, ne_eq] at hb
   first | rw [if_pos hb5] at h | rw [if_neg (Bool.eq_false_iff.1 hb5)] at h | rw [if_pos hb] at h | rw [if_neg hb] at h | (simp only [hb, hT, reduceIte] at h) | skip
   refine Dt.Nt rfl (wantZ hb5) ?_
   refine Dt.No rfl (wantZ hb5) ?_
   refine Dt.No rfl (wantZ hb5) ?_
   refine Dt.Nt rfl (wantZ hb5) ?_
   refine Dt.No rfl (wantZ hb5) ?_
   refine Dt.No rfl (wantZ hb5) ?_
   refine Dt.No rfl (wantZ hb5) ?_
   refine Dt.Nt rfl (wantZ hb5) ?_
   refine Dt.No rfl (wantZ hb5) ?_
   refine Dt.Po rfl (wantZ hb5) ?_
   refine Dt.Y rfl wantN (Y.pk (c := true) hb5) ?_
   refine Dt.nil ?_
   refine W.cond (fun hb => ?_) (fun hb => ?_)
   rotate_left
   ·
    exact DD hb
   have hb6 := hb
   refine AWp.seq ?_
   refine W.kp [1, 2, 6, 7, 8, 9, 10, 33] ?_
   refine AWp.region ?_
   refine L.Y Y.asg ?_
   refine AList.nil ?_
   obtain rfl := Option.some.inj h
   refine AWp.ret ?_
   exact ⟨.inr rfl, [(4, _)], _, ⟨rfl, rfl⟩, IsPart.at [] [] base0 .nil (E.c .nil)⟩
  ·
   have hb5 := hb
   try simp only [hS, hE, ne_eq] at hb
   first | rw [if_pos hb5] at h | rw [if_neg (Bool.eq_false_iff.1 hb5)] at h | rw [if_pos hb] at h | rw [if_neg hb] at h | (simp only [hb, hT, reduceIte] at h) | skip
   repeat (first | (rw [iN] at h; obtain ⟨_, h⟩ := h) | (rw [iP] at h; obtain ⟨_, h⟩ := h) | (simp only [bS] at h))
   refine Dt.T rfl (wantY hb5) (D.ldN Try.underlying28 Y28) ?_
   refine Dt.Y rfl (wantY hb5) Y.mv ?_
   refine Dt.Y rfl (wantY hb5) (Y.fa (off := 1) Try.underlying28 Y3) ?_
   refine Dt.T rfl (wantY hb5) (D.ld Try.underlying3) ?_
   refine Dt.Y rfl (wantY hb5) Y.bin ?_
   refine Dt.Y rfl (wantY hb5) Y.mv ?_
   refine Dt.Y rfl (wantY hb5) (Y.fa (off := 1) Try.underlying28 Y3) ?_
   refine Dt.T rfl (wantY hb5) (D.ld Try.underlying3) ?_
   refine Dt.Y rfl (wantY hb5) Y.bin ?_
   refine Dt.O (g' := false) rfl (wantY hb5) ?_
   obtain ⟨t263, hc7, h⟩ := Option.bind_eq_some_iff.1 h
   refine Ox.C true [] Try.func60 (impl_Table_marked.ac _ _ _ _ _ _ hc7) .nil ?_
   refine Dt.Y rfl wantN (Y.pk (c := false) hb5) ?_
   refine Dt.nil ?_
   refine W.cond (fun hb => ?_) (fun hb => ?_)
   ·
    have hb8 := hb
    try simp only [hS, hE, ne_eq] at hb
    first | rw [if_pos hb8] at h | rw [if_neg (Bool.eq_false_iff.1 hb8)] at h | rw [if_pos hb] at h | rw [if_neg hb] at h | (simp only [hb, hT, reduceIte] at h) | skip
    refine AWp.seq ?_
    refine W.kp [1, 2, 6, 7, 8, 9, 10, 33] ?_
    refine AWp.region ?_
    refine L.Y Y.asg ?_
    refine AList.nil ?_
    obtain rfl := Option.some.inj h
    refine AWp.ret ?_
    exact ⟨.inr rfl, [(4, _)], _, ⟨rfl, rfl⟩, IsPart.at [] [] base0 .nil (E.c .nil)⟩
   ·
    have hb8 := hb
    try simp only [hS, hE, ne_eq] at hb
    first | rw [if_pos hb8] at h | rw [if_neg (Bool.eq_false_iff.1 hb8)] at h | rw [if_pos hb] at h | rw [if_neg hb] at h | (simp only [hb, hT, reduceIte] at h) | skip
    refine AWp.skip ?_
    refine W.kp [1, 2, 6, 7, 8, 9, 10, 33] ?_
    refine AWp.region ?_
    refine L.Y Y.bin ?_
    refine L.Y Y.mv ?_
    refine AList.nil ?_
    exact ⟨k1, by omega, _, _, ⟨by omega, _, _, _, _, rfl, rfl, h⟩, IsPart.at [] [0] base0 (H.c .nil) (E.c (E.c (E.c (E.c (E.c .nil)))))⟩
 ·
  have hb3 := hb
  try simp only [hS, hE, ne_eq] at hb
  first | rw [if_pos hb3] at h | rw [if_neg (Bool.eq_false_iff.1 hb3)] at h | rw [if_pos hb] at h | rw [if_neg hb] at h | (simp only [hb, hT, reduceIte] at h) | skip
  refine AWp.exit ?_
  refine AWp.seq ?_
  refine AWp.region ?_
  refine L.Y Y.mv ?_
  obtain ⟨t260, hc9, h⟩ := Option.bind_eq_some_iff.1 h
  refine L.C (C.callE (l := true) [] Try.func74 (impl_isIncreasing.ac _ _ _ hc9) .nil ?_)
  refine L.Y Y.asg ?_
  refine AList.nil ?_
  obtain rfl := Option.some.inj h
  refine AWp.ret ?_
  exact ⟨.inr rfl, [(4, _)], _, ⟨rfl, rfl⟩, IsPart.at [] [] base0 .nil (E.c .nil)⟩

/-! ### impl_Table_freeOrder: function 54 -/
mutual
def impl_Table_freeOrder.l0 : Nat → List Int → List Int → Int → Int → Int → Int → List Int → Option (List Int)
 | 0, _, _, _, _, _, _, _ => none
 | k + 1, x5, x15, x16, x17, x265000, x265001, x265002 => if x17 < x16 then (if 0 ≤ x17 then (if x17 < (x15.length : Int) then (impl_Table_freeOrder.l1 k x5 (rd x15 x17) x15 x16 x17 x265000 0 x265000 x265001 x265002) else (none)) else (none)) else (impl_Table_freeOrder.l2 k x5 (([] : List Int)) 0 x265000 x265001 x265002)
def impl_Table_freeOrder.l1 : Nat → List Int → Int → List Int → Int → Int → Int → Int → Int → Int → List Int → Option (List Int)
 | 0, _, _, _, _, _, _, _, _, _, _ => none
 | k + 1, x5, x7, x15, x16, x17, x22, x23, x265000, x265001, x265002 => if x23 < x22 then (if x265001 = 0 then (none) else ((impl_Table_marked.f x265000 x265001 x265002 x23 (Int.tmod x7 x265001)).bind fun t269 => (if t269 = true then (if 0 ≤ x23 then (if x23 < (x5.length : Int) then (if 0 ≤ (wrap64 (Int.tdiv x7 x265001)) then (impl_Table_freeOrder.l1 k (x5.set (x23 : Int).toNat (Go.bits .or .i64 (rd x5 x23) (shl .i64 1 (wrap64 (Int.tdiv x7 x265001))))) x7 x15 x16 x17 x22 (wrap64 (x23 + 1)) x265000 x265001 x265002) else (none)) else (none)) else (none)) else (impl_Table_freeOrder.l1 k x5 x7 x15 x16 x17 x22 (wrap64 (x23 + 1)) x265000 x265001 x265002)))) else (impl_Table_freeOrder.l0 k x5 x15 x16 (wrap64 (x17 + 1)) x265000 x265001 x265002)
def impl_Table_freeOrder.l2 : Nat → List Int → List Int → Int → Int → Int → List Int → Option (List Int)
 | 0, _, _, _, _, _, _ => none
 | k + 1, x5, x9, x10, x265000, x265001, x265002 => if (x9.length : Int) < x265000 then (impl_Table_freeOrder.l3 k x5 x9 x10 0 x265000 x265001 x265002) else (if x9 = [] then (none) else (some x9))
def impl_Table_freeOrder.l3 : Nat → List Int → List Int → Int → Int → Int → Int → List Int → Option (List Int)
 | 0, _, _, _, _, _, _, _ => none
 | k + 1, x5, x9, x10, x11, x265000, x265001, x265002 => if x11 < x265000 then (if 0 ≤ x11 then (if (Go.bits .and .i64 (shr .i64 x10 x11) 1) = 1 then (impl_Table_freeOrder.l3 k x5 x9 x10 (wrap64 (x11 + 1)) x265000 x265001 x265002) else (if x11 < (x5.length : Int) then (if (Go.bits .andNot .i64 (rd x5 x11) x10) = 0 then (if x11 = x265000 then (some ([] : List Int)) else (if x9.length < 17592186044416 then (impl_Table_freeOrder.l2 k x5 (x9 ++ [x11]) (Go.bits .or .i64 x10 (shl .i64 1 x11)) x265000 x265001 x265002) else (none))) else (impl_Table_freeOrder.l3 k x5 x9 x10 (wrap64 (x11 + 1)) x265000 x265001 x265002)) else (none))) else (none)) else (if x11 = x265000 then (some ([] : List Int)) else (if x9.length < 17592186044416 then (if 0 ≤ x11 then (impl_Table_freeOrder.l2 k x5 (x9 ++ [x11]) (Go.bits .or .i64 x10 (shl .i64 1 x11)) x265000 x265001 x265002) else (none)) else (none)))
end
def impl_Table_freeOrder.f (k : Nat) (a0_0 : Int) (a0_1 : Int) (l0_2 : List Int) (l1 : List Int) : Option (List Int) := if 0 ≤ a0_0 then (if (a0_0 : Int).toNat ≤ 35184372088832 then (impl_Table_freeOrder.l0 k (List.replicate (a0_0 : Int).toNat 0) l1 (l1.length : Int) 0 a0_0 a0_1 l0_2) else (none)) else (none)
set_option maxRecDepth 100000 in
set_option maxHeartbeats 20000000 in
theorem impl_Table_freeOrder.acq (k : Nat) (a0_0 : Int) (a0_1 : Int) (l0_2 : List Int) (l1 : List Int) (r : List Int) (h : impl_Table_freeOrder.f k a0_0 a0_1 l0_2 l1 = some r) :
  ACalls Try.prog 54 [.agg [.lit (.int .i64 a0_0), .lit (.int .i64 a0_1), .row 1 l0_2.length false (ints .i64 l0_2)], .row 1 l1.length false (ints .i64 l1)] [] (fun v H' => (r = [] ∧ v = .lit (.slice none 0 0) ∧ H' = []) ∨ (r ≠ [] ∧ v = .own 0 r.length ∧ H' = [.sl 3 1 r.length true (ints .i64 r)])) := by
 refine ACalls.ofP [4] Try.func54 rfl (by exact Nat.le_of_ble_eq_true rfl) rfl (by decide) ?_
 simp only [Try.ntmps54, env0, impl_Table_freeOrder.f] at h ⊢
 repeat (first | (rw [iN] at h; obtain ⟨_, h⟩ := h) | (rw [iP] at h; obtain ⟨_, h⟩ := h) | (simp only [bS] at h))
 refine AWp.seq ?_
 refine AWp.region ?_
 refine L.M M.bx ?_
 refine L.Y Y.asg ?_
 refine AList.nil ?_
 refine AWp.seq ?_
 refine AWp.region ?_
 refine L.Y (Y.fa (off := 0) Try.underlying28 Y3) ?_
 refine L.S (S.ld Try.underlying3) ?_
 refine L.M (M.mk Try.underlying22 Y3) ?_
 refine L.Y Y.asg ?_
 refine AList.nil ?_
 refine AWp.seq ?_
 refine AWp.seq ?_
 refine AWp.region ?_
 refine L.Y Y.mv ?_
 refine L.Y (Y.ln Try.underlying22) ?_
 refine L.Y Y.mv ?_
 refine AList.nil ?_
 refine AWp.block ?_
 refine AWp.loopI (fun kk e H => kk ≤ k ∧ ∃ (x5 : List Int) (x16 : Int) (x17 : Int) (x265000 : Int) (x265001 : Int), e = [(2, .ptr 0 0), (4, .lit (.slice none 0 0)), (5, .own 1 x5.length), (15, .row 1 l1.length false (ints .i64 l1)), (16, .lit (.int .i64 x16)), (17, .lit (.int .i64 x17))] ∧ H = [.bx 28 [.lit (.int .i64 x265000), .lit (.int .i64 x265001), .row 1 l0_2.length false (ints .i64 l0_2)], .sl 3 1 x5.length true (ints .i64 x5)] ∧ impl_Table_freeOrder.l0 kk x5 l1 x16 x17 x265000 x265001 l0_2 = some r) (k := k)
  ⟨_, _, ⟨Nat.le_refl _, _, _, _, _, _, rfl, rfl, h⟩, IsPart.at [] [0, 1] base0 (H.c (H.c .nil)) (E.c (E.c (E.c (E.c (E.c (E.c .nil))))))⟩ ?_
 clear h
 rintro k1 e H ⟨hk2, x5, x16, x17, x265000, x265001, rfl, rfl, h⟩
 cases k1 with
 | zero => exact absurd h (by simp [impl_Table_freeOrder.l0])
 | succ k1 =>
 simp only [impl_Table_freeOrder.l0] at h
 refine AWp.seq ?_
 refine AWp.region ?_
 refine L.Y Y.bin ?_
 refine AList.nil ?_
 refine AWp.seq ?_
 refine W.cond (fun hb => ?_) (fun hb => ?_)
 ·
  have hb3 := hb
  try simp only [hS, hE, ne_eq] at hb
  first | rw [if_pos hb3] at h | rw [if_neg (Bool.eq_false_iff.1 hb3)] at h | rw [if_pos hb] at h | rw [if_neg hb] at h | (simp only [hb, hT, reduceIte] at h) | skip
  repeat (first | (rw [iN] at h; obtain ⟨_, h⟩ := h) | (rw [iP] at h; obtain ⟨_, h⟩ := h) | (simp only [bS] at h))
  refine AWp.skip ?_
  refine AWp.seq ?_
  refine AWp.block ?_
  refine AWp.seq ?_
  refine AWp.region ?_
  refine L.Y (Y.ixr Try.underlying22 Y3) ?_
  refine L.S (S.ld Try.underlying3) ?_
  refine L.Y Y.asg ?_
  refine AList.nil ?_
  refine AWp.seq ?_
  refine AWp.region ?_
  refine L.Y (Y.fa (off := 0) Try.underlying28 Y3) ?_
  refine L.S (S.ld Try.underlying3) ?_
  refine L.Y Y.mv ?_
  refine AList.nil ?_
  refine AWp.block ?_
  refine AWp.loopI (fun kk e H => kk ≤ k1 ∧ ∃ (x5 : List Int) (x7 : Int) (x16 : Int) (x17 : Int) (x22 : Int) (x23 : Int) (x265000 : Int) (x265001 : Int), e = [(2, .ptr 0 0), (4, .lit (.slice none 0 0)), (5, .own 1 x5.length), (7, .lit (.int .i64 x7)), (15, .row 1 l1.length false (ints .i64 l1)), (16, .lit (.int .i64 x16)), (17, .lit (.int .i64 x17)), (22, .lit (.int .i64 x22)), (23, .lit (.int .i64 x23))] ∧ H = [.bx 28 [.lit (.int .i64 x265000), .lit (.int .i64 x265001), .row 1 l0_2.length false (ints .i64 l0_2)], .sl 3 1 x5.length true (ints .i64 x5)] ∧ impl_Table_freeOrder.l1 kk x5 x7 l1 x16 x17 x22 x23 x265000 x265001 l0_2 = some r) (k := k1)
   ⟨_, _, ⟨Nat.le_refl _, _, _, _, _, _, _, _, _, rfl, rfl, h⟩, IsPart.at [] [0, 1] base0 (H.c (H.c .nil)) (E.c (E.c (E.c (E.c (E.c (E.c (E.c (E.c (E.c .nil)))))))))⟩ ?_
  clear h
  rintro k4 e H ⟨hk5, x5, x7, x16, x17, x22, x23, x265000, x265001, rfl, rfl, h⟩
  cases k4 with
  | zero => exact absurd h (by simp [impl_Table_freeOrder.l1])
  | succ k4 =>
  simp only [impl_Table_freeOrder.l1] at h
  refine AWp.seq ?_
  refine AWp.region ?_
  refine L.Y Y.bin ?_
  refine AList.nil ?_
  refine AWp.seq ?_
  refine W.cond (fun hb => ?_) (fun hb => ?_)
  ·
   have hb6 := hb
   try simp only [hS, hE, ne_eq] at hb
   first | rw [if_pos hb6] at h | rw [if_neg (Bool.eq_false_iff.1 hb6)] at h | rw [if_pos hb] at h | rw [if_neg hb] at h | (simp only [hb, hT, reduceIte] at h) | skip
   repeat (first | (rw [iN] at h; obtain ⟨_, h⟩ := h) | (rw [iP] at h; obtain ⟨_, h⟩ := h) | (simp only [bS] at h))
   refine AWp.skip ?_
   refine AWp.seq ?_
   refine AWp.block ?_
   refine AWp.seq ?_
   refine AWp.region ?_
   refine L.Y Y.mv ?_
   refine L.Y Y.asg ?_
   refine AList.nil ?_
   refine AWp.seq ?_
   refine Dt.reg [] [] (.t 0 (.y 1 (.y 2 (.y 3 (.t 4 (.y 5 (.one 6 .done))))))) HM ?_
   refine Dt.T rfl wantN (D.ldN Try.underlying28 Y28) ?_
   refine Dt.Y rfl wantN Y.mv ?_
   refine Dt.Y rfl wantN Y.mv ?_
   refine Dt.Y rfl wantN (Y.fa (off := 1) Try.underlying28 Y3) ?_
   refine Dt.T rfl wantN (D.ld Try.underlying3) ?_
   refine Dt.Y rfl wantN Y.bin ?_
   refine Dt.O (g' := false) rfl wantN ?_
   obtain ⟨t269, hc7, h⟩ := Option.bind_eq_some_iff.1 h
   refine Ox.C true [] Try.func60 (impl_Table_marked.ac _ _ _ _ _ _ hc7) .nil ?_
   refine Dt.nil ?_
   refine W.cond (fun hb => ?_) (fun hb => ?_)
   ·
    have hb8 := hb
    try simp only [hS, hE, ne_eq] at hb
    first | rw [if_pos hb8] at h | rw [if_neg (Bool.eq_false_iff.1 hb8)] at h | rw [if_pos hb] at h | rw [if_neg hb] at h | (simp only [hb, hT, reduceIte] at h) | skip
    repeat (first | (rw [iN] at h; obtain ⟨_, h⟩ := h) | (rw [iP] at h; obtain ⟨_, h⟩ := h) | (simp only [bS] at h))
    refine W.kp [2, 4, 5, 7, 8, 15, 16, 17, 22, 23, 24, 32] ?_
    refine Dt.reg [] [11] (.y 0 (.y 1 (.y 2 (.t 3 (.y 4 (.y 5 (.t 6 (.y 7 (.y 8 (.y 9 (.y 10 (.last 11 .done)))))))))))) HM ?_
    refine Dt.Y rfl wantN Y.mv ?_
    refine Dt.Y rfl wantN Y.mv ?_
    refine Dt.Y rfl wantN (Y.ixo Try.underlying22 Y3) ?_
    refine Dt.T rfl wantN (D.ld Try.underlying3) ?_
    refine Dt.Y rfl wantN Y.mv ?_
    refine Dt.Y rfl wantN (Y.fa (off := 1) Try.underlying28 Y3) ?_
    refine Dt.T rfl wantN (D.ld Try.underlying3) ?_
    refine Dt.Y rfl wantN Y.bin ?_
    refine Dt.Y rfl wantN Y.bin ?_
    refine Dt.Y rfl wantN Y.bin ?_
    refine Dt.Y rfl wantN (Y.ixo Try.underlying22 Y3) ?_
    refine Dt.L rfl wantN ?_
    refine Op.S (S.sts Y3) ?_
    refine Du.nil ?_
    refine W.kp [2, 4, 5, 7, 8, 15, 16, 17, 22, 23, 24, 32] ?_
    refine AWp.region ?_
    refine L.Y Y.bin ?_
    refine L.Y Y.mv ?_
    refine AList.nil ?_
    exact ⟨k4, by omega, _, _, ⟨by omega, _, _, _, _, _, _, _, _, rfl, rfl, h⟩, IsPart.at [] [0, 1] base0 (H.c (H.c .nil)) (E.c (E.c (E.c (E.c (E.c (E.c (E.c (E.c (E.c .nil)))))))))⟩
   ·
    have hb8 := hb
    try simp only [hS, hE, ne_eq] at hb
    first | rw [if_pos hb8] at h | rw [if_neg (Bool.eq_false_iff.1 hb8)] at h | rw [if_pos hb] at h | rw [if_neg hb] at h | (simp only [hb, hT, reduceIte] at h) | skip
    refine AWp.skip ?_
    refine W.kp [2, 4, 5, 7, 8, 15, 16, 17, 22, 23, 24, 32] ?_
    refine AWp.region ?_
    refine L.Y Y.bin ?_
    refine L.Y Y.mv ?_
    refine AList.nil ?_
    exact ⟨k4, by omega, _, _, ⟨by omega, _, _, _, _, _, _, _, _, rfl, rfl, h⟩, IsPart.at [] [0, 1] base0 (H.c (H.c .nil)) (E.c (E.c (E.c (E.c (E.c (E.c (E.c (E.c (E.c .nil)))))))))⟩
  ·
   have hb6 := hb
   try simp only [hS, hE, ne_eq] at hb
   first | rw [if_pos hb6] at h | rw [if_neg (Bool.eq_false_iff.1 hb6)] at h | rw [if_pos hb] at h | rw [if_neg hb] at h | (simp only [hb, hT, reduceIte] at h) | skip
   refine AWp.exit ?_
   refine AWp.region ?_
   refine L.Y Y.bin ?_
   refine L.Y Y.mv ?_
   refine AList.nil ?_
   exact ⟨k4, by omega, _, _, ⟨by omega, _, _, _, _, _, rfl, rfl, h⟩, IsPart.at [] [0, 1] base0 (H.c (H.c .nil)) (E.c (E.c (E.c (E.c (E.c (E.c .nil))))))⟩
 ·
  have hb3 := hb
  try simp only [hS, hE, ne_eq] at hb
  first | rw [if_pos hb3] at h | rw [if_neg (Bool.eq_false_iff.1 hb3)] at h | rw [if_pos hb] at h | rw [if_neg hb] at h | (simp only [hb, hT, reduceIte] at h) | skip
  repeat (first | (rw [iN] at h; obtain ⟨_, h⟩ := h) | (rw [iP] at h; obtain ⟨_, h⟩ := h) | (simp only [bS] at h))
  refine AWp.exit ?_
  refine AWp.seq ?_
  refine AWp.region ?_
  refine L.M (M.bs Try.underlying22 Y3) ?_
  refine L.Y Y.asg ?_
  refine L.Y Y.asg ?_
  refine AList.nil ?_
  refine AWp.seq ?_
  refine AWp.block ?_
  refine AWp.loopI (fun kk e H => kk ≤ k1 ∧ ∃ (x5 : List Int) (x9 : List Int) (x10 : Int) (x265000 : Int) (x265001 : Int), e = [(2, .ptr 0 0), (5, .own 1 x5.length), (9, .own 2 x9.length), (10, .lit (.int .i64 x10))] ∧ H = [.bx 28 [.lit (.int .i64 x265000), .lit (.int .i64 x265001), .row 1 l0_2.length false (ints .i64 l0_2)], .sl 3 1 x5.length true (ints .i64 x5), .sl 3 1 x9.length true (ints .i64 x9)] ∧ impl_Table_freeOrder.l2 kk x5 x9 x10 x265000 x265001 l0_2 = some r) (k := k1)
   ⟨_, _, ⟨Nat.le_refl _, _, _, _, _, _, rfl, rfl, h⟩, IsPart.at [] [0, 1, 2] base0 (H.c (H.c (H.c .nil))) (E.c (E.c (E.c (E.c .nil))))⟩ ?_
  clear h
  rintro k9 e H ⟨hk10, x5, x9, x10, x265000, x265001, rfl, rfl, h⟩
  cases k9 with
  | zero => exact absurd h (by simp [impl_Table_freeOrder.l2])
  | succ k9 =>
  simp only [impl_Table_freeOrder.l2] at h
  refine AWp.seq ?_
  refine AWp.seq ?_
  refine AWp.region ?_
  refine L.Y Y.mv ?_
  refine L.Y (Y.ln Try.underlying22) ?_
  refine L.Y (Y.fa (off := 0) Try.underlying28 Y3) ?_
  refine L.S (S.ld Try.underlying3) ?_
  refine L.Y Y.bin ?_
  refine AList.nil ?_
  refine W.cond (fun hb => ?_) (fun hb => ?_)
  ·
   have hb11 := hb
   try simp only [hS, hE, ne_eq] at hb
   first | rw [if_pos hb11] at h | rw [if_neg (Bool.eq_false_iff.1 hb11)] at h | rw [if_pos hb] at h | rw [if_neg hb] at h | (simp only [hb, hT, reduceIte] at h) | skip
   refine AWp.skip ?_
   refine AWp.block ?_
   refine AWp.seq ?_
   refine W.kp [2, 5, 9, 10, 51] ?_
   refine AWp.region ?_
   refine L.Y Y.asg ?_
   refine AList.nil ?_
   refine AWp.seq ?_
   refine AWp.block ?_
   refine AWp.loopI (fun kk e H => kk ≤ k9 ∧ ∃ (x5 : List Int) (x9 : List Int) (x10 : Int) (x11 : Int) (x265000 : Int) (x265001 : Int), e = [(2, .ptr 0 0), (5, .own 1 x5.length), (9, .own 2 x9.length), (10, .lit (.int .i64 x10)), (11, .lit (.int .i64 x11))] ∧ H = [.bx 28 [.lit (.int .i64 x265000), .lit (.int .i64 x265001), .row 1 l0_2.length false (ints .i64 l0_2)], .sl 3 1 x5.length true (ints .i64 x5), .sl 3 1 x9.length true (ints .i64 x9)] ∧ impl_Table_freeOrder.l3 kk x5 x9 x10 x11 x265000 x265001 l0_2 = some r) (k := k9)
    ⟨_, _, ⟨Nat.le_refl _, _, _, _, _, _, _, rfl, rfl, h⟩, IsPart.at [] [0, 1, 2] base0 (H.c (H.c (H.c .nil))) (E.c (E.c (E.c (E.c (E.c .nil)))))⟩ ?_
   clear h
   rintro k12 e H ⟨hk13, x5, x9, x10, x11, x265000, x265001, rfl, rfl, h⟩
   cases k12 with
   | zero => exact absurd h (by simp [impl_Table_freeOrder.l3])
   | succ k12 =>
   simp only [impl_Table_freeOrder.l3] at h
   refine AWp.seq ?_
   refine AWp.seq ?_
   refine AWp.region ?_
   refine L.Y Y.mv ?_
   refine L.Y (Y.fa (off := 0) Try.underlying28 Y3) ?_
   refine L.S (S.ld Try.underlying3) ?_
   refine L.Y Y.bin ?_
   refine L.Y Y.mv ?_
   refine L.Gc (fun hb => ?_) (fun hb => ?_)
   ·
    have hb14 := hb
    try simp only [hS, hE, ne_eq] at hb
    first | rw [if_pos hb14] at h | rw [if_neg (Bool.eq_false_iff.1 hb14)] at h | rw [if_pos hb] at h | rw [if_neg hb] at h | (simp only [hb, hT, reduceIte] at h) | skip
    repeat (first | (rw [iN] at h; obtain ⟨_, h⟩ := h) | (rw [iP] at h; obtain ⟨_, h⟩ := h) | (simp only [bS] at h))
    refine L.Gy hb14 Y.mv ?_
    refine L.Gy hb14 Y.mv ?_
    refine L.Gy hb14 Y.bin ?_
    refine L.Gy hb14 Y.bin ?_
    refine L.Gy hb14 Y.bin ?_
    refine L.Gy hb14 Y.mv ?_
    refine L.Gc (fun hb => ?_) (fun hb => ?_)
    ·
     have hb15 := hb
     try simp only [hS, hE, ne_eq] at hb
     first | rw [if_pos hb15] at h | rw [if_neg (Bool.eq_false_iff.1 hb15)] at h | rw [if_pos hb] at h | rw [if_neg hb] at h | (simp only [hb, hT, reduceIte] at h) | skip
     refine L.Gn hb15 ?_
     refine L.Gn hb15 ?_
     refine L.Gn hb15 ?_
     refine L.Gn hb15 ?_
     refine L.Gn hb15 ?_
     refine L.Gn hb15 ?_
     refine L.Gn hb15 ?_
     refine L.Gy hb14 (Y.pk (c := true) hb15) ?_
     refine L.Y (Y.pk (c := true) hb14) ?_
     refine AList.nil ?_
     refine W.cond (fun hb => ?_) (fun hb => ?_)
     rotate_left
     ·
      exact DD hb
     have hb16 := hb
     refine AWp.skip ?_
     refine AWp.block ?_
     refine W.kp [2, 5, 9, 10, 11, 71] ?_
     refine AWp.region ?_
     refine L.Y Y.mv ?_
     refine L.Y Y.bin ?_
     refine L.Y Y.asg ?_
     refine AList.nil ?_
     exact ⟨k12, by omega, _, _, ⟨by omega, _, _, _, _, _, _, rfl, rfl, h⟩, IsPart.at [] [0, 1, 2] base0 (H.c (H.c (H.c .nil))) (E.c (E.c (E.c (E.c (E.c .nil)))))⟩
    ·
     have hb15 := hb
     try simp only [hS, hE, ne_eq] at hb
     first | rw [if_pos hb15] at h | rw [if_neg (Bool.eq_false_iff.1 hb15)] at h | rw [if_pos hb] at h | rw [if_neg hb] at h | (simp only [hb, hT, reduceIte] at h) | skip
     repeat (first | (rw [iN] at h; obtain ⟨_, h⟩ := h) | (rw [iP] at h; obtain ⟨_, h⟩ := h) | (simp only [bS] at h))
     refine L.Gy hb15 Y.mv ?_
     refine L.Gy hb15 Y.mv ?_
     refine L.Gy hb15 (Y.ixo Try.underlying22 Y3) ?_
     refine L.Gs hb15 (S.ld Try.underlying3) ?_
     refine L.Gy hb15 Y.mv ?_
     refine L.Gy hb15 Y.bin ?_
     refine L.Gy hb15 Y.bin ?_
     refine L.Gy hb14 (Y.pk (c := false) hb15) ?_
     refine L.Y (Y.pk (c := true) hb14) ?_
     refine AList.nil ?_
     refine W.cond (fun hb => ?_) (fun hb => ?_)
     ·
      have hb17 := hb
      try simp only [hS, hE, ne_eq] at hb
      first | rw [if_pos hb17] at h | rw [if_neg (Bool.eq_false_iff.1 hb17)] at h | rw [if_pos hb] at h | rw [if_neg hb] at h | (simp only [hb, hT, reduceIte] at h) | skip
      refine AWp.skip ?_
      refine AWp.block ?_
      refine W.kp [2, 5, 9, 10, 11, 71] ?_
      refine AWp.region ?_
      refine L.Y Y.mv ?_
      refine L.Y Y.bin ?_
      refine L.Y Y.asg ?_
      refine AList.nil ?_
      exact ⟨k12, by omega, _, _, ⟨by omega, _, _, _, _, _, _, rfl, rfl, h⟩, IsPart.at [] [0, 1, 2] base0 (H.c (H.c (H.c .nil))) (E.c (E.c (E.c (E.c (E.c .nil)))))⟩
     ·
      have hb17 := hb
      try simp only [hS, hE, ne_eq] at hb
      first | rw [if_pos hb17] at h | rw [if_neg (Bool.eq_false_iff.1 hb17)] at h | rw [if_pos hb] at h | rw [if_neg hb] at h | (simp only [hb, hT, reduceIte] at h) | skip
      refine AWp.exit ?_
      refine AWp.seq ?_
      refine AWp.seq ?_
      refine W.kp [2, 5, 9, 10, 11, 71] ?_
      refine AWp.region ?_
      refine L.Y Y.mv ?_
      refine L.Y (Y.fa (off := 0) Try.underlying28 Y3) ?_
      refine L.S (S.ld Try.underlying3) ?_
      refine L.Y Y.bin ?_
      refine AList.nil ?_
      refine W.cond (fun hb => ?_) (fun hb => ?_)
      ·
       have hb18 := hb
       try simp only [hS, hE, ne_eq] at hb
       first | rw [if_pos hb18] at h | rw [if_neg (Bool.eq_false_iff.1 hb18)] at h | rw [if_pos hb] at h | rw [if_neg hb] at h | (simp only [hb, hT, reduceIte] at h) | skip
       refine AWp.seq ?_
       refine AWp.region ?_
       refine L.Y Y.asg ?_
       refine AList.nil ?_
       obtain rfl := Option.some.inj h
       refine AWp.ret ?_
       exact ⟨.inr rfl, [(4, _)], _, .inl ⟨rfl, rfl, rfl⟩, IsPart.at [] [] base0 .nil (E.c .nil)⟩
      ·
       have hb18 := hb
       try simp only [hS, hE, ne_eq] at hb
       first | rw [if_pos hb18] at h | rw [if_neg (Bool.eq_false_iff.1 hb18)] at h | rw [if_pos hb] at h | rw [if_neg hb] at h | (simp only [hb, hT, reduceIte] at h) | skip
       repeat (first | (rw [iN] at h; obtain ⟨_, h⟩ := h) | (rw [iP] at h; obtain ⟨_, h⟩ := h) | (simp only [bS] at h))
       refine AWp.skip ?_
       refine Dt.reg [] [3] (.y 0 (.y 1 (.y 4 (.y 5 (.y 6 (.y 7 (.one 2 (.last 3 (.y 8 (.y 9 .done)))))))))) HM ?_
       refine Dt.Y rfl wantN Y.mv ?_
       refine Dt.Y rfl wantN Y.mv ?_
       refine Dt.Y rfl wantN Y.mv ?_
       refine Dt.Y rfl wantN Y.mv ?_
       refine Dt.Y rfl wantN Y.bin ?_
       refine Dt.Y rfl wantN Y.bin ?_
       refine Dt.O (g' := false) rfl wantN ?_
       refine Ox.M (M.bs Try.underlying22 Y3) ?_
       refine Dt.L rfl wantN ?_
       refine Op.S (S.ap (nn' := true) Try.underlying22 Y3) ?_
       refine Du.Y rfl wantN Y.asg ?_
       refine Du.Y rfl wantN Y.asg ?_
       refine Du.nil ?_
       exact ⟨k12, by omega, _, _, ⟨by omega, _, _, _, _, _, rfl, rfl, h⟩, IsPart.at [] [0, 1, 2] base0 (H.c (H.c (H.c .nil))) (E.c (E.c (E.c (E.c .nil))))⟩
   ·
    have hb14 := hb
    try simp only [hS, hE, ne_eq] at hb
    first | rw [if_pos hb14] at h | rw [if_neg (Bool.eq_false_iff.1 hb14)] at h | rw [if_pos hb] at h | rw [if_neg hb] at h | (simp only [hb, hT, reduceIte] at h) | skip
    refine L.Gn hb14 ?_
    refine L.Gn hb14 ?_
    refine L.Gn hb14 ?_
    refine L.Gn hb14 ?_
    refine L.Gn hb14 ?_
    refine L.Gn hb14 ?_
    refine L.Nu ?_
    refine L.Nu ?_
    refine L.Nu ?_
    refine L.Nu ?_
    refine L.Nu ?_
    refine L.Nu ?_
    refine L.Nu ?_
    refine L.Gn hb14 ?_
    refine L.Y (Y.pk (c := false) hb14) ?_
    refine AList.nil ?_
    refine W.cond (fun hb => ?_) (fun hb => ?_)
    ·
     exact DD hb
    have hb19 := hb
    refine AWp.exit ?_
    refine AWp.seq ?_
    refine AWp.seq ?_
    refine W.kp [2, 5, 9, 10, 11, 71] ?_
    refine AWp.region ?_
    refine L.Y Y.mv ?_
    refine L.Y (Y.fa (off := 0) Try.underlying28 Y3) ?_
    refine L.S (S.ld Try.underlying3) ?_
    refine L.Y Y.bin ?_
    refine AList.nil ?_
    refine W.cond (fun hb => ?_) (fun hb => ?_)
    ·
     have hb20 := hb
     try simp only [hS, hE, ne_eq] at hb
     first | rw [if_pos hb20] at h | rw [if_neg (Bool.eq_false_iff.1 hb20)] at h | rw [if_pos hb] at h | rw [if_neg hb] at h | (simp only [hb, hT, reduceIte] at h) | skip
     refine AWp.seq ?_
     refine AWp.region ?_
     refine L.Y Y.asg ?_
     refine AList.nil ?_
     obtain rfl := Option.some.inj h
     refine AWp.ret ?_
     exact ⟨.inr rfl, [(4, _)], _, .inl ⟨rfl, rfl, rfl⟩, IsPart.at [] [] base0 .nil (E.c .nil)⟩
    ·
     have hb20 := hb
     try simp only [hS, hE, ne_eq] at hb
     first | rw [if_pos hb20] at h | rw [if_neg (Bool.eq_false_iff.1 hb20)] at h | rw [if_pos hb] at h | rw [if_neg hb] at h | (simp only [hb, hT, reduceIte] at h) | skip
     repeat (first | (rw [iN] at h; obtain ⟨_, h⟩ := h) | (rw [iP] at h; obtain ⟨_, h⟩ := h) | (simp only [bS] at h))
     refine AWp.skip ?_
     refine Dt.reg [] [3] (.y 0 (.y 1 (.y 4 (.y 5 (.y 6 (.y 7 (.one 2 (.last 3 (.y 8 (.y 9 .done)))))))))) HM ?_
     refine Dt.Y rfl wantN Y.mv ?_
     refine Dt.Y rfl wantN Y.mv ?_
     refine Dt.Y rfl wantN Y.mv ?_
     refine Dt.Y rfl wantN Y.mv ?_
     refine Dt.Y rfl wantN Y.bin ?_
     refine Dt.Y rfl wantN Y.bin ?_
     refine Dt.O (g' := false) rfl wantN ?_
     refine Ox.M (M.bs Try.underlying22 Y3) ?_
     refine Dt.L rfl wantN ?_
     refine Op.S (S.ap (nn' := true) Try.underlying22 Y3) ?_
     refine Du.Y rfl wantN Y.asg ?_
     refine Du.Y rfl wantN Y.asg ?_
     refine Du.nil ?_
     exact ⟨k12, by omega, _, _, ⟨by omega, _, _, _, _, _, rfl, rfl, h⟩, IsPart.at [] [0, 1, 2] base0 (H.c (H.c (H.c .nil))) (E.c (E.c (E.c (E.c .nil))))⟩
  ·
   have hb11 := hb
   try simp only [hS, hE, ne_eq] at hb
   first | rw [if_pos hb11] at h | rw [if_neg (Bool.eq_false_iff.1 hb11)] at h | rw [if_pos hb] at h | rw [if_neg hb] at h | (simp only [hb, hT, reduceIte] at h) | skip
   repeat (first | (rw [iN] at h; obtain ⟨_, h⟩ := h) | (rw [iP] at h; obtain ⟨_, h⟩ := h) | (simp only [bS] at h))
   refine AWp.exit ?_
   refine AWp.seq ?_
   refine W.kp [2, 5, 9, 10, 51] ?_
   refine AWp.region ?_
   refine L.Y Y.mv ?_
   refine L.Y Y.asg ?_
   refine AList.nil ?_
   obtain rfl := Option.some.inj h
   refine AWp.ret ?_
   exact ⟨.inr rfl, [(4, _)], _, .inr ⟨by first | assumption | simp, rfl, rfl⟩, IsPart.at [] [2] base0 (H.c .nil) (E.c .nil)⟩

end Go.Proofs.Ytpippjgphndjmaa.PFnCovers
