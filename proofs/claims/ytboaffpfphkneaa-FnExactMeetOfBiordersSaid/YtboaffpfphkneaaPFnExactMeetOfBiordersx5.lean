-- Written by a program of this session's (wip/myprint2): the functions by the kit's print, the walks by awgen.py. Lean checks it.
import Derived.Test.YtboaffpfphkneaaPFnExactMeetOfBiordersx0
import Derived.Test.YtboaffpfphkneaaPFnExactMeetOfBiordersx3
namespace Go.Proofs.Ytboaffpfphkneaa.PFnExactMeetOfBiorders
open Go.RowKit Go.Proofs.YtboaffpfphkneaaW.PrintWords Go.Proofs.YtboaffpfphkneaaW.PrintLast Go.Proofs.YtboaffpfphkneaaW.PrintMore Go.Proofs.YtboaffpfphkneaaM Go.Proofs.YtboaffpfphkneaaA
attribute [local go_sem] max2_int min2_int max_two min_two max_three min_three max_four min_four   -- for this text's walks alone
set_option linter.unusedVariables false
set_option linter.unusedSimpArgs false

/-! ### impl_Table_freeOrder: function 24 -/
mutual
def impl_Table_freeOrder.l0 : Nat → List Int → List Int → Int → Int → Int → Int → List Int → Option (List Int)
 | 0, _, _, _, _, _, _, _ => none
 | k + 1, x5, x15, x16, x17, x235000, x235001, x235002 => if x17 < x16 then (if 0 ≤ x17 then (if x17 < (x15.length : Int) then (impl_Table_freeOrder.l1 k x5 (rd x15 x17) x15 x16 x17 x235000 0 x235000 x235001 x235002) else (none)) else (none)) else (impl_Table_freeOrder.l2 k x5 (([] : List Int)) 0 x235000 x235001 x235002)
def impl_Table_freeOrder.l1 : Nat → List Int → Int → List Int → Int → Int → Int → Int → Int → Int → List Int → Option (List Int)
 | 0, _, _, _, _, _, _, _, _, _, _ => none
 | k + 1, x5, x7, x15, x16, x17, x22, x23, x235000, x235001, x235002 => if x23 < x22 then (if x235001 = 0 then (none) else ((impl_Table_marked.f x235000 x235001 x235002 x23 (Int.tmod x7 x235001)).bind fun t239 => (if t239 = true then (if 0 ≤ x23 then (if x23 < (x5.length : Int) then (if 0 ≤ (wrap64 (Int.tdiv x7 x235001)) then (impl_Table_freeOrder.l1 k (x5.set (x23 : Int).toNat (Go.bits .or .i64 (rd x5 x23) (shl .i64 1 (wrap64 (Int.tdiv x7 x235001))))) x7 x15 x16 x17 x22 (wrap64 (x23 + 1)) x235000 x235001 x235002) else (none)) else (none)) else (none)) else (impl_Table_freeOrder.l1 k x5 x7 x15 x16 x17 x22 (wrap64 (x23 + 1)) x235000 x235001 x235002)))) else (impl_Table_freeOrder.l0 k x5 x15 x16 (wrap64 (x17 + 1)) x235000 x235001 x235002)
def impl_Table_freeOrder.l2 : Nat → List Int → List Int → Int → Int → Int → List Int → Option (List Int)
 | 0, _, _, _, _, _, _ => none
 | k + 1, x5, x9, x10, x235000, x235001, x235002 => if (x9.length : Int) < x235000 then (impl_Table_freeOrder.l3 k x5 x9 x10 0 x235000 x235001 x235002) else (if x9 = [] then (none) else (some x9))
def impl_Table_freeOrder.l3 : Nat → List Int → List Int → Int → Int → Int → Int → List Int → Option (List Int)
 | 0, _, _, _, _, _, _, _ => none
 | k + 1, x5, x9, x10, x11, x235000, x235001, x235002 => if x11 < x235000 then (if 0 ≤ x11 then (if (Go.bits .and .i64 (shr .i64 x10 x11) 1) = 1 then (impl_Table_freeOrder.l3 k x5 x9 x10 (wrap64 (x11 + 1)) x235000 x235001 x235002) else (if x11 < (x5.length : Int) then (if (Go.bits .andNot .i64 (rd x5 x11) x10) = 0 then (if x11 = x235000 then (some ([] : List Int)) else (if x9.length < 17592186044416 then (impl_Table_freeOrder.l2 k x5 (x9 ++ [x11]) (Go.bits .or .i64 x10 (shl .i64 1 x11)) x235000 x235001 x235002) else (none))) else (impl_Table_freeOrder.l3 k x5 x9 x10 (wrap64 (x11 + 1)) x235000 x235001 x235002)) else (none))) else (none)) else (if x11 = x235000 then (some ([] : List Int)) else (if x9.length < 17592186044416 then (if 0 ≤ x11 then (impl_Table_freeOrder.l2 k x5 (x9 ++ [x11]) (Go.bits .or .i64 x10 (shl .i64 1 x11)) x235000 x235001 x235002) else (none)) else (none)))
end
def impl_Table_freeOrder.f (k : Nat) (a0_0 : Int) (a0_1 : Int) (l0_2 : List Int) (l1 : List Int) : Option (List Int) := if 0 ≤ a0_0 then (if (a0_0 : Int).toNat ≤ 35184372088832 then (impl_Table_freeOrder.l0 k (List.replicate (a0_0 : Int).toNat 0) l1 (l1.length : Int) 0 a0_0 a0_1 l0_2) else (none)) else (none)
set_option maxRecDepth 100000 in
set_option maxHeartbeats 20000000 in
theorem impl_Table_freeOrder.acq (k : Nat) (a0_0 : Int) (a0_1 : Int) (l0_2 : List Int) (l1 : List Int) (r : List Int) (h : impl_Table_freeOrder.f k a0_0 a0_1 l0_2 l1 = some r) :
  ACalls Try.prog 24 [.agg [.lit (.int .i64 a0_0), .lit (.int .i64 a0_1), .row 1 l0_2.length false (ints .i64 l0_2)], .row 1 l1.length false (ints .i64 l1)] [] (fun v H' => (r = [] ∧ v = .lit (.slice none 0 0) ∧ H' = []) ∨ (r ≠ [] ∧ v = .own 0 r.length ∧ H' = [.sl 3 1 r.length true (ints .i64 r)])) := by
 refine ACalls.ofP [4] Try.func24 rfl (by exact Nat.le_of_ble_eq_true rfl) rfl (by decide) ?_
 simp only [Try.ntmps24, env0, impl_Table_freeOrder.f] at h ⊢
 repeat (first | (rw [iN] at h; obtain ⟨_, h⟩ := h) | (rw [iP] at h; obtain ⟨_, h⟩ := h) | (simp only [bS] at h))
 refine AWp.seq ?_
 refine AWp.region ?_
 refine L.M M.bx ?_
 refine L.Y Y.asg ?_
 refine AList.nil ?_
 refine AWp.seq ?_
 refine AWp.region ?_
 refine L.Y (Y.fa (off := 0) Try.underlying29 Y3) ?_
 refine L.S (S.ld Try.underlying3) ?_
 refine L.M (M.mk Try.underlying22 Y3) ?_
 refine L.Y Y.asg ?_
 refine AList.nil ?_
 refine AWp.seq ?_
 refine AWp.seq ?_
 refine AWp.region ?_
 refine L.Y Y.mv ?_
 refine L.Y (Y.ln Try.underlying22) ?_
 refine L.Y Y.mv ?_
 refine AList.nil ?_
 refine AWp.block ?_
 refine AWp.loopI (fun kk e H => kk ≤ k ∧ ∃ (x5 : List Int) (x16 : Int) (x17 : Int) (x235000 : Int) (x235001 : Int), e = [(2, .ptr 0 0), (4, .lit (.slice none 0 0)), (5, .own 1 x5.length), (15, .row 1 l1.length false (ints .i64 l1)), (16, .lit (.int .i64 x16)), (17, .lit (.int .i64 x17))] ∧ H = [.bx 29 [.lit (.int .i64 x235000), .lit (.int .i64 x235001), .row 1 l0_2.length false (ints .i64 l0_2)], .sl 3 1 x5.length true (ints .i64 x5)] ∧ impl_Table_freeOrder.l0 kk x5 l1 x16 x17 x235000 x235001 l0_2 = some r) (k := k)
  ⟨_, _, ⟨Nat.le_refl _, _, _, _, _, _, rfl, rfl, h⟩, IsPart.at [] [0, 1] base0 (H.c (H.c .nil)) (E.c (E.c (E.c (E.c (E.c (E.c .nil))))))⟩ ?_
 clear h
 rintro k1 e H ⟨hk2, x5, x16, x17, x235000, x235001, rfl, rfl, h⟩
 cases k1 with
 | zero => exact absurd h (by simp [impl_Table_freeOrder.l0])
 | succ k1 =>
 simp only [impl_Table_freeOrder.l0] at h
 refine AWp.seq ?_
 refine AWp.region ?_
 refine L.Y Y.bin ?_
 refine AList.nil ?_
 refine AWp.seq ?_
 refine W.cond (fun hb => ?_) (fun hb => ?_)
 ·
  have hb3 := hb
  try simp only [hS, hE, ne_eq] at hb
  first | rw [if_pos hb3] at h | rw [if_neg (Bool.eq_false_iff.1 hb3)] at h | rw [if_pos hb] at h | rw [if_neg hb] at h | (simp only [hb, hT, reduceIte] at h) | skip
  repeat (first | (rw [iN] at h; obtain ⟨_, h⟩ := h) | (rw [iP] at h; obtain ⟨_, h⟩ := h) | (simp only [bS] at h))
  refine AWp.skip ?_
  refine AWp.seq ?_
  refine AWp.block ?_
  refine AWp.seq ?_
  refine AWp.region ?_
  refine L.Y (Y.ixr Try.underlying22 Y3) ?_
  refine L.S (S.ld Try.underlying3) ?_
  refine L.Y Y.asg ?_
  refine AList.nil ?_
  refine AWp.seq ?_
  refine AWp.region ?_
  refine L.Y (Y.fa (off := 0) Try.underlying29 Y3) ?_
  refine L.S (S.ld Try.underlying3) ?_
  refine L.Y Y.mv ?_
  refine AList.nil ?_
  refine AWp.block ?_
  refine AWp.loopI (fun kk e H => kk ≤ k1 ∧ ∃ (x5 : List Int) (x7 : Int) (x16 : Int) (x17 : Int) (x22 : Int) (x23 : Int) (x235000 : Int) (x235001 : Int), e = [(2, .ptr 0 0), (4, .lit (.slice none 0 0)), (5, .own 1 x5.length), (7, .lit (.int .i64 x7)), (15, .row 1 l1.length false (ints .i64 l1)), (16, .lit (.int .i64 x16)), (17, .lit (.int .i64 x17)), (22, .lit (.int .i64 x22)), (23, .lit (.int .i64 x23))] ∧ H = [.bx 29 [.lit (.int .i64 x235000), .lit (.int .i64 x235001), .row 1 l0_2.length false (ints .i64 l0_2)], .sl 3 1 x5.length true (ints .i64 x5)] ∧ impl_Table_freeOrder.l1 kk x5 x7 l1 x16 x17 x22 x23 x235000 x235001 l0_2 = some r) (k := k1)
   ⟨_, _, ⟨Nat.le_refl _, _, _, _, _, _, _, _, _, rfl, rfl, h⟩, IsPart.at [] [0, 1] base0 (H.c (H.c .nil)) (E.c (E.c (E.c (E.c (E.c (E.c (E.c (E.c (E.c .nil)))))))))⟩ ?_
  clear h
  rintro k4 e H ⟨hk5, x5, x7, x16, x17, x22, x23, x235000, x235001, rfl, rfl, h⟩
  cases k4 with
  | zero => exact absurd h (by simp [impl_Table_freeOrder.l1])
  | succ k4 =>
  simp only [impl_Table_freeOrder.l1] at h
  refine AWp.seq ?_
  refine AWp.region ?_
  refine L.Y Y.bin ?_
  refine AList.nil ?_
  refine AWp.seq ?_
  refine W.cond (fun hb => ?_) (fun hb => ?_)
  ·
   have hb6 := hb
   try simp only [hS, hE, ne_eq] at hb
   first | rw [if_pos hb6] at h | rw [if_neg (Bool.eq_false_iff.1 hb6)] at h | rw [if_pos hb] at h | rw [if_neg hb] at h | (simp only [hb, hT, reduceIte] at h) | skip
   repeat (first | (rw [iN] at h; obtain ⟨_, h⟩ := h) | (rw [iP] at h; obtain ⟨_, h⟩ := h) | (simp only [bS] at h))
   refine AWp.skip ?_
   refine AWp.seq ?_
   refine AWp.block ?_
   refine AWp.seq ?_
   refine AWp.region ?_
   refine L.Y Y.mv ?_
   refine L.Y Y.asg ?_
   refine AList.nil ?_
   refine AWp.seq ?_
   refine Dt.reg [] [] (.t 0 (.y 1 (.y 2 (.y 3 (.t 4 (.y 5 (.one 6 .done))))))) HM ?_
   refine Dt.T rfl wantN (D.ldN Try.underlying29 Y29) ?_
   refine Dt.Y rfl wantN Y.mv ?_
   refine Dt.Y rfl wantN Y.mv ?_
   refine Dt.Y rfl wantN (Y.fa (off := 1) Try.underlying29 Y3) ?_
   refine Dt.T rfl wantN (D.ld Try.underlying3) ?_
   refine Dt.Y rfl wantN Y.bin ?_
   refine Dt.O (g' := false) rfl wantN ?_
   replace h := Option.bind_eq_some_iff.1 h
   obtain ⟨t239, hc7, h⟩ := h
   refine Ox.C true [] Try.func38 (impl_Table_marked.ac _ _ _ _ _ _ hc7) .nil ?_
   refine Dt.nil ?_
   refine W.cond (fun hb => ?_) (fun hb => ?_)
   ·
    have hb8 := hb
    try simp only [hS, hE, ne_eq] at hb
    first | rw [if_pos hb8] at h | rw [if_neg (Bool.eq_false_iff.1 hb8)] at h | rw [if_pos hb] at h | rw [if_neg hb] at h | (simp only [hb, hT, reduceIte] at h) | skip
    repeat (first | (rw [iN] at h; obtain ⟨_, h⟩ := h) | (rw [iP] at h; obtain ⟨_, h⟩ := h) | (simp only [bS] at h))
    refine W.kp [2, 4, 5, 7, 8, 15, 16, 17, 22, 23, 24, 32] ?_
    refine Dt.reg [] [11] (.y 0 (.y 1 (.y 2 (.t 3 (.y 4 (.y 5 (.t 6 (.y 7 (.y 8 (.y 9 (.y 10 (.last 11 .done)))))))))))) HM ?_
    refine Dt.Y rfl wantN Y.mv ?_
    refine Dt.Y rfl wantN Y.mv ?_
    refine Dt.Y rfl wantN (Y.ixo Try.underlying22 Y3) ?_
    refine Dt.T rfl wantN (D.ld Try.underlying3) ?_
    refine Dt.Y rfl wantN Y.mv ?_
    refine Dt.Y rfl wantN (Y.fa (off := 1) Try.underlying29 Y3) ?_
    refine Dt.T rfl wantN (D.ld Try.underlying3) ?_
    refine Dt.Y rfl wantN Y.bin ?_
    refine Dt.Y rfl wantN Y.bin ?_
    refine Dt.Y rfl wantN Y.bin ?_
    refine Dt.Y rfl wantN (Y.ixo Try.underlying22 Y3) ?_
    refine Dt.L rfl wantN ?_
    refine Op.S (S.sts Y3) ?_
    refine Du.nil ?_
    refine W.kp [2, 4, 5, 7, 8, 15, 16, 17, 22, 23, 24, 32] ?_
    refine AWp.region ?_
    refine L.Y Y.bin ?_
    refine L.Y Y.mv ?_
    refine AList.nil ?_
    exact ⟨k4, by omega, _, _, ⟨by omega, _, _, _, _, _, _, _, _, rfl, rfl, h⟩, IsPart.at [] [0, 1] base0 (H.c (H.c .nil)) (E.c (E.c (E.c (E.c (E.c (E.c (E.c (E.c (E.c .nil)))))))))⟩
   ·
    have hb8 := hb
    try simp only [hS, hE, ne_eq] at hb
    first | rw [if_pos hb8] at h | rw [if_neg (Bool.eq_false_iff.1 hb8)] at h | rw [if_pos hb] at h | rw [if_neg hb] at h | (simp only [hb, hT, reduceIte] at h) | skip
    refine AWp.skip ?_
    refine W.kp [2, 4, 5, 7, 8, 15, 16, 17, 22, 23, 24, 32] ?_
    refine AWp.region ?_
    refine L.Y Y.bin ?_
    refine L.Y Y.mv ?_
    refine AList.nil ?_
    exact ⟨k4, by omega, _, _, ⟨by omega, _, _, _, _, _, _, _, _, rfl, rfl, h⟩, IsPart.at [] [0, 1] base0 (H.c (H.c .nil)) (E.c (E.c (E.c (E.c (E.c (E.c (E.c (E.c (E.c .nil)))))))))⟩
  ·
   have hb6 := hb
   try simp only [hS, hE, ne_eq] at hb
   first | rw [if_pos hb6] at h | rw [if_neg (Bool.eq_false_iff.1 hb6)] at h | rw [if_pos hb] at h | rw [if_neg hb] at h | (simp only [hb, hT, reduceIte] at h) | skip
   refine AWp.exit ?_
   refine AWp.region ?_
   refine L.Y Y.bin ?_
   refine L.Y Y.mv ?_
   refine AList.nil ?_
   exact ⟨k4, by omega, _, _, ⟨by omega, _, _, _, _, _, rfl, rfl, h⟩, IsPart.at [] [0, 1] base0 (H.c (H.c .nil)) (E.c (E.c (E.c (E.c (E.c (E.c .nil))))))⟩
 ·
  have hb3 := hb
  try simp only [hS, hE, ne_eq] at hb
  first | rw [if_pos hb3] at h | rw [if_neg (Bool.eq_false_iff.1 hb3)] at h | rw [if_pos hb] at h | rw [if_neg hb] at h | (simp only [hb, hT, reduceIte] at h) | skip
  repeat (first | (rw [iN] at h; obtain ⟨_, h⟩ := h) | (rw [iP] at h; obtain ⟨_, h⟩ := h) | (simp only [bS] at h))
  refine AWp.exit ?_
  refine AWp.seq ?_
  refine AWp.region ?_
  refine L.M (M.bs Try.underlying22 Y3) ?_
  refine L.Y Y.asg ?_
  refine L.Y Y.asg ?_
  refine AList.nil ?_
  refine AWp.seq ?_
  refine AWp.block ?_
  refine AWp.loopI (fun kk e H => kk ≤ k1 ∧ ∃ (x5 : List Int) (x9 : List Int) (x10 : Int) (x235000 : Int) (x235001 : Int), e = [(2, .ptr 0 0), (5, .own 1 x5.length), (9, .own 2 x9.length), (10, .lit (.int .i64 x10))] ∧ H = [.bx 29 [.lit (.int .i64 x235000), .lit (.int .i64 x235001), .row 1 l0_2.length false (ints .i64 l0_2)], .sl 3 1 x5.length true (ints .i64 x5), .sl 3 1 x9.length true (ints .i64 x9)] ∧ impl_Table_freeOrder.l2 kk x5 x9 x10 x235000 x235001 l0_2 = some r) (k := k1)
   ⟨_, _, ⟨Nat.le_refl _, _, _, _, _, _, rfl, rfl, h⟩, IsPart.at [] [0, 1, 2] base0 (H.c (H.c (H.c .nil))) (E.c (E.c (E.c (E.c .nil))))⟩ ?_
  clear h
  rintro k9 e H ⟨hk10, x5, x9, x10, x235000, x235001, rfl, rfl, h⟩
  cases k9 with
  | zero => exact absurd h (by simp [impl_Table_freeOrder.l2])
  | succ k9 =>
  simp only [impl_Table_freeOrder.l2] at h
  refine AWp.seq ?_
  refine AWp.seq ?_
  refine AWp.region ?_
  refine L.Y Y.mv ?_
  refine L.Y (Y.ln Try.underlying22) ?_
  refine L.Y (Y.fa (off := 0) Try.underlying29 Y3) ?_
  refine L.S (S.ld Try.underlying3) ?_
  refine L.Y Y.bin ?_
  refine AList.nil ?_
  refine W.cond (fun hb => ?_) (fun hb => ?_)
  ·
   have hb11 := hb
   try simp only [hS, hE, ne_eq] at hb
   first | rw [if_pos hb11] at h | rw [if_neg (Bool.eq_false_iff.1 hb11)] at h | rw [if_pos hb] at h | rw [if_neg hb] at h | (simp only [hb, hT, reduceIte] at h) | skip
   refine AWp.skip ?_
   refine AWp.block ?_
   refine AWp.seq ?_
   refine W.kp [2, 5, 9, 10, 51] ?_
   refine AWp.region ?_
   refine L.Y Y.asg ?_
   refine AList.nil ?_
   refine AWp.seq ?_
   refine AWp.block ?_
   refine AWp.loopI (fun kk e H => kk ≤ k9 ∧ ∃ (x5 : List Int) (x9 : List Int) (x10 : Int) (x11 : Int) (x235000 : Int) (x235001 : Int), e = [(2, .ptr 0 0), (5, .own 1 x5.length), (9, .own 2 x9.length), (10, .lit (.int .i64 x10)), (11, .lit (.int .i64 x11))] ∧ H = [.bx 29 [.lit (.int .i64 x235000), .lit (.int .i64 x235001), .row 1 l0_2.length false (ints .i64 l0_2)], .sl 3 1 x5.length true (ints .i64 x5), .sl 3 1 x9.length true (ints .i64 x9)] ∧ impl_Table_freeOrder.l3 kk x5 x9 x10 x11 x235000 x235001 l0_2 = some r) (k := k9)
    ⟨_, _, ⟨Nat.le_refl _, _, _, _, _, _, _, rfl, rfl, h⟩, IsPart.at [] [0, 1, 2] base0 (H.c (H.c (H.c .nil))) (E.c (E.c (E.c (E.c (E.c .nil)))))⟩ ?_
   clear h
   rintro k12 e H ⟨hk13, x5, x9, x10, x11, x235000, x235001, rfl, rfl, h⟩
   cases k12 with
   | zero => exact absurd h (by simp [impl_Table_freeOrder.l3])
   | succ k12 =>
   simp only [impl_Table_freeOrder.l3] at h
   refine AWp.seq ?_
   refine AWp.seq ?_
   refine AWp.region ?_
   refine L.Y Y.mv ?_
   refine L.Y (Y.fa (off := 0) Try.underlying29 Y3) ?_
   refine L.S (S.ld Try.underlying3) ?_
   refine L.Y Y.bin ?_
   refine L.Y Y.mv ?_
   refine L.Gc (fun hb => ?_) (fun hb => ?_)
   ·
    have hb14 := hb
    try simp only [hS, hE, ne_eq] at hb
    first | rw [if_pos hb14] at h | rw [if_neg (Bool.eq_false_iff.1 hb14)] at h | rw [if_pos hb] at h | rw [if_neg hb] at h | (simp only [hb, hT, reduceIte] at h) | skip
    repeat (first | (rw [iN] at h; obtain ⟨_, h⟩ := h) | (rw [iP] at h; obtain ⟨_, h⟩ := h) | (simp only [bS] at h))
    refine L.Gy hb14 Y.mv ?_
    refine L.Gy hb14 Y.mv ?_
    refine L.Gy hb14 Y.bin ?_
    refine L.Gy hb14 Y.bin ?_
    refine L.Gy hb14 Y.bin ?_
    refine L.Gy hb14 Y.mv ?_
    refine L.Gc (fun hb => ?_) (fun hb => ?_)
    ·
     have hb15 := hb
     try simp only [hS, hE, ne_eq] at hb
     first | rw [if_pos hb15] at h | rw [if_neg (Bool.eq_false_iff.1 hb15)] at h | rw [if_pos hb] at h | rw [if_neg hb] at h | (simp only [hb, hT, reduceIte] at h) | skip
     refine L.Gn hb15 ?_
     refine L.Gn hb15 ?_
     refine L.Gn hb15 ?_
     refine L.Gn hb15 ?_
     refine L.Gn hb15 ?_
     refine L.Gn hb15 ?_
     refine L.Gn hb15 ?_
     refine L.Gy hb14 (Y.pk (c := true) hb15) ?_
     refine L.Y (Y.pk (c := true) hb14) ?_
     refine AList.nil ?_
     refine W.cond (fun hb => ?_) (fun hb => ?_)
     rotate_left
     ·
      first | exact Bool.false_ne_true ((Eq.symm (by assumption)).trans hb) | exact Bool.false_ne_true (hb.symm.trans (by assumption)) | exact DD hb
     have hb16 := hb
     refine AWp.skip ?_
     refine AWp.block ?_
     refine W.kp [2, 5, 9, 10, 11, 71] ?_
     refine AWp.region ?_
     refine L.Y Y.mv ?_
     refine L.Y Y.bin ?_
     refine L.Y Y.asg ?_
     refine AList.nil ?_
     exact ⟨k12, by omega, _, _, ⟨by omega, _, _, _, _, _, _, rfl, rfl, h⟩, IsPart.at [] [0, 1, 2] base0 (H.c (H.c (H.c .nil))) (E.c (E.c (E.c (E.c (E.c .nil)))))⟩
    ·
     have hb15 := hb
     try simp only [hS, hE, ne_eq] at hb
     first | rw [if_pos hb15] at h | rw [if_neg (Bool.eq_false_iff.1 hb15)] at h | rw [if_pos hb] at h | rw [if_neg hb] at h | (simp only [hb, hT, reduceIte] at h) | skip
     repeat (first | (rw [iN] at h; obtain ⟨_, h⟩ := h) | (rw [iP] at h; obtain ⟨_, h⟩ := h) | (simp only [bS] at h))
     refine L.Gy hb15 Y.mv ?_
     refine L.Gy hb15 Y.mv ?_
     refine L.Gy hb15 (Y.ixo Try.underlying22 Y3) ?_
     refine L.Gs hb15 (S.ld Try.underlying3) ?_
     refine L.Gy hb15 Y.mv ?_
     refine L.Gy hb15 Y.bin ?_
     refine L.Gy hb15 Y.bin ?_
     refine L.Gy hb14 (Y.pk (c := false) hb15) ?_
     refine L.Y (Y.pk (c := true) hb14) ?_
     refine AList.nil ?_
     refine W.cond (fun hb => ?_) (fun hb => ?_)
     ·
      have hb17 := hb
      try simp only [hS, hE, ne_eq] at hb
      first | rw [if_pos hb17] at h | rw [if_neg (Bool.eq_false_iff.1 hb17)] at h | rw [if_pos hb] at h | rw [if_neg hb] at h | (simp only [hb, hT, reduceIte] at h) | skip
      refine AWp.skip ?_
      refine AWp.block ?_
      refine W.kp [2, 5, 9, 10, 11, 71] ?_
      refine AWp.region ?_
      refine L.Y Y.mv ?_
      refine L.Y Y.bin ?_
      refine L.Y Y.asg ?_
      refine AList.nil ?_
      exact ⟨k12, by omega, _, _, ⟨by omega, _, _, _, _, _, _, rfl, rfl, h⟩, IsPart.at [] [0, 1, 2] base0 (H.c (H.c (H.c .nil))) (E.c (E.c (E.c (E.c (E.c .nil)))))⟩
     ·
      have hb17 := hb
      try simp only [hS, hE, ne_eq] at hb
      first | rw [if_pos hb17] at h | rw [if_neg (Bool.eq_false_iff.1 hb17)] at h | rw [if_pos hb] at h | rw [if_neg hb] at h | (simp only [hb, hT, reduceIte] at h) | skip
      refine AWp.exit ?_
      refine AWp.seq ?_
      refine AWp.seq ?_
      refine W.kp [2, 5, 9, 10, 11, 71] ?_
      refine AWp.region ?_
      refine L.Y Y.mv ?_
      refine L.Y (Y.fa (off := 0) Try.underlying29 Y3) ?_
      refine L.S (S.ld Try.underlying3) ?_
      refine L.Y Y.bin ?_
      refine AList.nil ?_
      refine W.cond (fun hb => ?_) (fun hb => ?_)
      ·
       have hb18 := hb
       try simp only [hS, hE, ne_eq] at hb
       first | rw [if_pos hb18] at h | rw [if_neg (Bool.eq_false_iff.1 hb18)] at h | rw [if_pos hb] at h | rw [if_neg hb] at h | (simp only [hb, hT, reduceIte] at h) | skip
       refine AWp.seq ?_
       refine AWp.region ?_
       refine L.Y Y.asg ?_
       refine AList.nil ?_
       obtain rfl := Option.some.inj h
       refine AWp.ret ?_
       exact ⟨.inr rfl, [(4, _)], _, .inl ⟨rfl, rfl, rfl⟩, IsPart.at [] [] base0 .nil (E.c .nil)⟩
      ·
       have hb18 := hb
       try simp only [hS, hE, ne_eq] at hb
       first | rw [if_pos hb18] at h | rw [if_neg (Bool.eq_false_iff.1 hb18)] at h | rw [if_pos hb] at h | rw [if_neg hb] at h | (simp only [hb, hT, reduceIte] at h) | skip
       repeat (first | (rw [iN] at h; obtain ⟨_, h⟩ := h) | (rw [iP] at h; obtain ⟨_, h⟩ := h) | (simp only [bS] at h))
       refine AWp.skip ?_
       refine Dt.reg [] [3] (.y 0 (.y 1 (.y 4 (.y 5 (.y 6 (.y 7 (.one 2 (.last 3 (.y 8 (.y 9 .done)))))))))) HM ?_
       refine Dt.Y rfl wantN Y.mv ?_
       refine Dt.Y rfl wantN Y.mv ?_
       refine Dt.Y rfl wantN Y.mv ?_
       refine Dt.Y rfl wantN Y.mv ?_
       refine Dt.Y rfl wantN Y.bin ?_
       refine Dt.Y rfl wantN Y.bin ?_
       refine Dt.O (g' := false) rfl wantN ?_
       refine Ox.M (M.bs Try.underlying22 Y3) ?_
       refine Dt.L rfl wantN ?_
       refine Op.S (S.ap (nn' := true) Try.underlying22 Y3) ?_
       refine Du.Y rfl wantN Y.asg ?_
       refine Du.Y rfl wantN Y.asg ?_
       refine Du.nil ?_
       exact ⟨k12, by omega, _, _, ⟨by omega, _, _, _, _, _, rfl, rfl, h⟩, IsPart.at [] [0, 1, 2] base0 (H.c (H.c (H.c .nil))) (E.c (E.c (E.c (E.c .nil))))⟩
   ·
    have hb14 := hb
    try simp only [hS, hE, ne_eq] at hb
    first | rw [if_pos hb14] at h | rw [if_neg (Bool.eq_false_iff.1 hb14)] at h | rw [if_pos hb] at h | rw [if_neg hb] at h | (simp only [hb, hT, reduceIte] at h) | skip
    refine L.Gn hb14 ?_
    refine L.Gn hb14 ?_
    refine L.Gn hb14 ?_
    refine L.Gn hb14 ?_
    refine L.Gn hb14 ?_
    refine L.Gn hb14 ?_
    refine L.Nu ?_
    refine L.Nu ?_
    refine L.Nu ?_
    refine L.Nu ?_
    refine L.Nu ?_
    refine L.Nu ?_
    refine L.Nu ?_
    refine L.Gn hb14 ?_
    refine L.Y (Y.pk (c := false) hb14) ?_
    refine AList.nil ?_
    refine W.cond (fun hb => ?_) (fun hb => ?_)
    ·
     first | exact Bool.false_ne_true ((Eq.symm (by assumption)).trans hb) | exact Bool.false_ne_true (hb.symm.trans (by assumption)) | exact DD hb
    have hb19 := hb
    refine AWp.exit ?_
    refine AWp.seq ?_
    refine AWp.seq ?_
    refine W.kp [2, 5, 9, 10, 11, 71] ?_
    refine AWp.region ?_
    refine L.Y Y.mv ?_
    refine L.Y (Y.fa (off := 0) Try.underlying29 Y3) ?_
    refine L.S (S.ld Try.underlying3) ?_
    refine L.Y Y.bin ?_
    refine AList.nil ?_
    refine W.cond (fun hb => ?_) (fun hb => ?_)
    ·
     have hb20 := hb
     try simp only [hS, hE, ne_eq] at hb
     first | rw [if_pos hb20] at h | rw [if_neg (Bool.eq_false_iff.1 hb20)] at h | rw [if_pos hb] at h | rw [if_neg hb] at h | (simp only [hb, hT, reduceIte] at h) | skip
     refine AWp.seq ?_
     refine AWp.region ?_
     refine L.Y Y.asg ?_
     refine AList.nil ?_
     obtain rfl := Option.some.inj h
     refine AWp.ret ?_
     exact ⟨.inr rfl, [(4, _)], _, .inl ⟨rfl, rfl, rfl⟩, IsPart.at [] [] base0 .nil (E.c .nil)⟩
    ·
     have hb20 := hb
     try simp only [hS, hE, ne_eq] at hb
     first | rw [if_pos hb20] at h | rw [if_neg (Bool.eq_false_iff.1 hb20)] at h | rw [if_pos hb] at h | rw [if_neg hb] at h | (simp only [hb, hT, reduceIte] at h) | skip
     repeat (first | (rw [iN] at h; obtain ⟨_, h⟩ := h) | (rw [iP] at h; obtain ⟨_, h⟩ := h) | (simp only [bS] at h))
     refine AWp.skip ?_
     refine Dt.reg [] [3] (.y 0 (.y 1 (.y 4 (.y 5 (.y 6 (.y 7 (.one 2 (.last 3 (.y 8 (.y 9 .done)))))))))) HM ?_
     refine Dt.Y rfl wantN Y.mv ?_
     refine Dt.Y rfl wantN Y.mv ?_
     refine Dt.Y rfl wantN Y.mv ?_
     refine Dt.Y rfl wantN Y.mv ?_
     refine Dt.Y rfl wantN Y.bin ?_
     refine Dt.Y rfl wantN Y.bin ?_
     refine Dt.O (g' := false) rfl wantN ?_
     refine Ox.M (M.bs Try.underlying22 Y3) ?_
     refine Dt.L rfl wantN ?_
     refine Op.S (S.ap (nn' := true) Try.underlying22 Y3) ?_
     refine Du.Y rfl wantN Y.asg ?_
     refine Du.Y rfl wantN Y.asg ?_
     refine Du.nil ?_
     exact ⟨k12, by omega, _, _, ⟨by omega, _, _, _, _, _, rfl, rfl, h⟩, IsPart.at [] [0, 1, 2] base0 (H.c (H.c (H.c .nil))) (E.c (E.c (E.c (E.c .nil))))⟩
  ·
   have hb11 := hb
   try simp only [hS, hE, ne_eq] at hb
   first | rw [if_pos hb11] at h | rw [if_neg (Bool.eq_false_iff.1 hb11)] at h | rw [if_pos hb] at h | rw [if_neg hb] at h | (simp only [hb, hT, reduceIte] at h) | skip
   repeat (first | (rw [iN] at h; obtain ⟨_, h⟩ := h) | (rw [iP] at h; obtain ⟨_, h⟩ := h) | (simp only [bS] at h))
   refine AWp.exit ?_
   refine AWp.seq ?_
   refine W.kp [2, 5, 9, 10, 51] ?_
   refine AWp.region ?_
   refine L.Y Y.mv ?_
   refine L.Y Y.asg ?_
   refine AList.nil ?_
   obtain rfl := Option.some.inj h
   refine AWp.ret ?_
   exact ⟨.inr rfl, [(4, _)], _, .inr ⟨by first | assumption | simp, rfl, rfl⟩, IsPart.at [] [2] base0 (H.c .nil) (E.c .nil)⟩

/-! ### impl_cellsWith: function 25 -/
def impl_cellsWith.l0 : Nat → List Int → Int → List Int → List Int → Int → Int → Option (List Int)
 | 0, _, _, _, _, _, _ => none
 | k + 1, x0, x2, x7, x11, x12, x13 => if x13 < x12 then (if 0 ≤ x13 then (if x13 < (x11.length : Int) then (if (rd x11 x13) = x2 then (if x13 < (x0.length : Int) then (if x7.length < 17592186044416 then (impl_cellsWith.l0 k x0 x2 (x7 ++ [rd x0 x13]) x11 x12 (wrap64 (x13 + 1))) else (none)) else (none)) else (impl_cellsWith.l0 k x0 x2 x7 x11 x12 (wrap64 (x13 + 1)))) else (none)) else (none)) else (some x7)
def impl_cellsWith.f (k : Nat) (l0 : List Int) (l1 : List Int) (a2 : Int) : Option (List Int) := impl_cellsWith.l0 k l0 a2 (([] : List Int)) l1 (l1.length : Int) 0
set_option maxRecDepth 100000 in
set_option maxHeartbeats 20000000 in
theorem impl_cellsWith.ac (k : Nat) (l0 : List Int) (l1 : List Int) (a2 : Int) (r : List Int) (h : impl_cellsWith.f k l0 l1 a2 = some r) :
  ACalls Try.prog 25 [.row 1 l0.length false (ints .i64 l0), .row 1 l1.length false (ints .i64 l1), .lit (.int .i64 a2)] [] (fun v H' => v = .own 0 r.length ∧ H' = [.sl 3 1 r.length false (ints .i64 r)]) := by
 refine ACalls.ofP [6] Try.func25 rfl (by exact Nat.le_of_ble_eq_true rfl) rfl (by decide) ?_
 simp only [Try.ntmps25, env0, impl_cellsWith.f] at h ⊢
 repeat (first | (rw [iN] at h; obtain ⟨_, h⟩ := h) | (rw [iP] at h; obtain ⟨_, h⟩ := h) | (simp only [bS] at h))
 refine AWp.seq ?_
 refine AWp.region ?_
 refine L.Y Y.asg ?_
 refine AList.nil ?_
 refine AWp.seq ?_
 refine AWp.region ?_
 refine L.M (M.bs Try.underlying22 Y3) ?_
 refine L.Y Y.asg ?_
 refine AList.nil ?_
 refine AWp.seq ?_
 refine AWp.seq ?_
 refine AWp.region ?_
 refine L.Y Y.mv ?_
 refine L.Y (Y.ln Try.underlying22) ?_
 refine L.Y Y.mv ?_
 refine AList.nil ?_
 refine AWp.block ?_
 refine AWp.loopI (fun kk e H => kk ≤ k ∧ ∃ (x2 : Int) (x7 : List Int) (x12 : Int) (x13 : Int), e = [(0, .row 1 l0.length false (ints .i64 l0)), (2, .lit (.int .i64 x2)), (6, .lit (.slice none 0 0)), (7, .own 0 x7.length), (11, .row 1 l1.length false (ints .i64 l1)), (12, .lit (.int .i64 x12)), (13, .lit (.int .i64 x13))] ∧ H = [.sl 3 1 x7.length true (ints .i64 x7)] ∧ impl_cellsWith.l0 kk l0 x2 x7 l1 x12 x13 = some r) (k := k)
  ⟨_, _, ⟨Nat.le_refl _, _, _, _, _, rfl, rfl, h⟩, IsPart.at [] [0] base0 (H.c .nil) (E.c (E.c (E.c (E.c (E.c (E.c (E.c .nil)))))))⟩ ?_
 clear h
 rintro k1 e H ⟨hk2, x2, x7, x12, x13, rfl, rfl, h⟩
 cases k1 with
 | zero => exact absurd h (by simp [impl_cellsWith.l0])
 | succ k1 =>
 simp only [impl_cellsWith.l0] at h
 refine AWp.seq ?_
 refine AWp.region ?_
 refine L.Y Y.bin ?_
 refine AList.nil ?_
 refine AWp.seq ?_
 refine W.cond (fun hb => ?_) (fun hb => ?_)
 ·
  have hb3 := hb
  try simp only [hS, hE, ne_eq] at hb
  first | rw [if_pos hb3] at h | rw [if_neg (Bool.eq_false_iff.1 hb3)] at h | rw [if_pos hb] at h | rw [if_neg hb] at h | (simp only [hb, hT, reduceIte] at h) | skip
  repeat (first | (rw [iN] at h; obtain ⟨_, h⟩ := h) | (rw [iP] at h; obtain ⟨_, h⟩ := h) | (simp only [bS] at h))
  refine AWp.skip ?_
  refine AWp.seq ?_
  refine AWp.block ?_
  refine AWp.seq ?_
  refine AWp.region ?_
  refine L.Y Y.mv ?_
  refine L.Y (Y.ixr Try.underlying22 Y3) ?_
  refine L.S (S.ld Try.underlying3) ?_
  refine L.Y Y.asg ?_
  refine L.Y Y.asg ?_
  refine AList.nil ?_
  refine AWp.seq ?_
  refine AWp.region ?_
  refine L.Y Y.mv ?_
  refine L.Y Y.mv ?_
  refine L.Y Y.bin ?_
  refine AList.nil ?_
  refine W.cond (fun hb => ?_) (fun hb => ?_)
  ·
   have hb4 := hb
   try simp only [hS, hE, ne_eq] at hb
   first | rw [if_pos hb4] at h | rw [if_neg (Bool.eq_false_iff.1 hb4)] at h | rw [if_pos hb] at h | rw [if_neg hb] at h | (simp only [hb, hT, reduceIte] at h) | skip
   repeat (first | (rw [iN] at h; obtain ⟨_, h⟩ := h) | (rw [iP] at h; obtain ⟨_, h⟩ := h) | (simp only [bS] at h))
   refine W.kp [0, 2, 6, 7, 8, 9, 11, 12, 13, 14, 20] ?_
   refine AWp.region ?_
   refine L.Y Y.mv ?_
   refine L.Y Y.mv ?_
   refine L.Y Y.mv ?_
   refine L.Y (Y.ixr Try.underlying22 Y3) ?_
   refine L.S (S.ld Try.underlying3) ?_
   refine L.M (M.bs Try.underlying22 Y3) ?_
   refine L.S (S.ap (nn' := true) Try.underlying22 Y3) ?_
   refine L.Y Y.asg ?_
   refine AList.nil ?_
   refine W.kp [0, 2, 6, 7, 8, 9, 11, 12, 13, 14, 20] ?_
   refine AWp.region ?_
   refine L.Y Y.bin ?_
   refine L.Y Y.mv ?_
   refine AList.nil ?_
   exact ⟨k1, by omega, _, _, ⟨by omega, _, _, _, _, rfl, rfl, h⟩, IsPart.at [] [0] base0 (H.c .nil) (E.c (E.c (E.c (E.c (E.c (E.c (E.c .nil)))))))⟩
  ·
   have hb4 := hb
   try simp only [hS, hE, ne_eq] at hb
   first | rw [if_pos hb4] at h | rw [if_neg (Bool.eq_false_iff.1 hb4)] at h | rw [if_pos hb] at h | rw [if_neg hb] at h | (simp only [hb, hT, reduceIte] at h) | skip
   refine AWp.skip ?_
   refine W.kp [0, 2, 6, 7, 8, 9, 11, 12, 13, 14, 20] ?_
   refine AWp.region ?_
   refine L.Y Y.bin ?_
   refine L.Y Y.mv ?_
   refine AList.nil ?_
   exact ⟨k1, by omega, _, _, ⟨by omega, _, _, _, _, rfl, rfl, h⟩, IsPart.at [] [0] base0 (H.c .nil) (E.c (E.c (E.c (E.c (E.c (E.c (E.c .nil)))))))⟩
 ·
  have hb3 := hb
  try simp only [hS, hE, ne_eq] at hb
  first | rw [if_pos hb3] at h | rw [if_neg (Bool.eq_false_iff.1 hb3)] at h | rw [if_pos hb] at h | rw [if_neg hb] at h | (simp only [hb, hT, reduceIte] at h) | skip
  refine AWp.exit ?_
  refine AWp.seq ?_
  refine AWp.region ?_
  refine L.Y Y.mv ?_
  refine L.Y Y.asg ?_
  refine AList.nil ?_
  obtain rfl := Option.some.inj h
  refine AWp.ret ?_
  exact ⟨.inr rfl, [(6, _)], _, ⟨rfl, rfl⟩, IsPart.at [] [0] base0 (H.c .nil) (E.c .nil)⟩

/-! ### slices_Clone_int_int: function 37 -/
def slices_Clone_int_int.f (l0 : List Int) : Option (List Int) := if l0.length * 8 ≤ 140737488355328 then some l0 else none
def slices_Clone_int_int.ren : Go.Shelf.Ren := ⟨fun | 15 => 37 | n => n, fun | 3 => 3 | 4 => 4 | 22 => 22 | n => n, fun n => n⟩
theorem slices_Clone_int_int.lays : Go.Proofs.Lays2.n15 Try.prog slices_Clone_int_int.ren where
 mixed := by kernel_rfl
 f15 := Try.func37.trans (congrArg some (by kernel_rfl))
 t3 := Try.underlying3
 a3 := Try.isAgg3
 z3 := Try.sizeOf3
 v3 := Try.zeroValue3
 t4 := Try.underlying4
 a4 := Try.isAgg4
 z4 := Try.sizeOf4
 v4 := Try.zeroValue4
 t22 := Try.underlying22
 a22 := Try.isAgg22
 z22 := Try.sizeOf22
 v22 := Try.zeroValue22
 i3 := by kernel_rfl
theorem slices_Clone_int_int.row {w : World} {v : Value} {base : Nat} {xs : List Int} (h : w.ownsRow base 3 1 v xs.length (xs.map (Value.int .i64))) : Kd.R (Kd.int .i64) 3 w base (fun _ => True) v xs := by
 refine ⟨fun _ _ => trivial, xs.map (Value.int .i64), h, ⟨by simp [Kd.int, Kd.scalar], fun j p hj => ?_⟩⟩
 show ((xs.map (Value.int .i64)).drop (j * 1)).take 1 = [Value.int .i64 p]
 obtain ⟨hl, rfl⟩ := List.getElem?_eq_some_iff.1 hj
 rw [Nat.mul_one, List.drop_eq_getElem_cons (by simpa using hl)]
 simp
theorem slices_Clone_int_int.calls (A0 : Option Addr) (c0 : Nat) (l0 : List Int) (r : List Int) (w : World) (hr0 : Kd.C (Kd.int .i64) w A0 l0.length l0) (hc0 : l0.length ≤ c0) (h : slices_Clone_int_int.f l0 = some r) :
  Calls Try.prog 37 #[.slice A0 l0.length c0] w fun e w' => ∃ v0_ : Value, e = .returned (v0_) ∧ Kd.R (Kd.int .i64) 3 w' w.heap.size (fun _ => True) v0_ r ∧ Below w.heap.size w w' := by
 unfold slices_Clone_int_int.f at h
 by_cases hb : l0.length * 8 ≤ 140737488355328
 ·
  rw [if_pos hb] at h
  injection h with h
  subst h
  obtain ⟨_, _, hcell⟩ := hr0
  cases A0 with
  | none =>
   have h0 : l0 = [] := by
    apply List.eq_nil_of_length_eq_zero
    apply Nat.eq_zero_of_not_pos
    intro hp
    obtain ⟨ad, e, _⟩ := hcell hp
    cases e
   refine (Any.slices_Clone_int_nil slices_Clone_int_int.lays l0.length c0 w).mono ?_
   rintro e w' ⟨rfl, rfl⟩
   refine ⟨_, rfl, ?_, Below.refl _ _⟩
   rw [h0]
   exact Kd.R_nil _ _ _ _ _
  | some ad =>
   by_cases hp : 0 < l0.length
   ·
    obtain ⟨ad', e, hc⟩ := hcell hp
    cases e
    have hcc : ∀ j, j < l0.length → w.cell? (ad.add j) = some (.int .i64 (l0.getD j 0)) := by
     intro j hj
     obtain ⟨c, hlen, hk, hcells⟩ := hc j l0[j] (List.getElem?_eq_getElem hj)
     have hk' : c = [Value.int .i64 l0[j]] := hk
     have t : w.cell? (ad.add (j * 1 + 0)) = some (Value.int .i64 l0[j]) := hcells 0 (Value.int .i64 l0[j]) (by rw [hk']; rfl)
     rw [Nat.mul_one, Nat.add_zero] at t
     rw [List.getD_eq_getElem?_getD, List.getElem?_eq_getElem hj]
     exact t
    obtain ⟨b, off, spot⟩ := ad
    have hspot : spot = none := by
     have h1 : w.cell? ⟨b, off, spot⟩ = some (.int .i64 (l0.getD 0 0)) := hcc 0 hp
     cases spot with
     | none => rfl
     | some s =>
      simp only [World.cell?] at h1
      split at h1
      ·
       simp at h1
      ·
       cases h1
    subst hspot
    have hc3 : ∀ j, j < l0.length → w.cell? ⟨b, off + j, none⟩ = some (.int .i64 (l0.getD j 0)) := by
     intro j hj
     have := hcc j hj
     rw [Addr.add_lit] at this
     exact this
    refine (Any.slices_Clone_int slices_Clone_int_int.lays b off l0.length c0 l0 w (Nat.le_refl _) hb hc3).mono ?_
    rintro e w' ⟨v', rfl, ho, _, hb'⟩
    refine ⟨v', rfl, slices_Clone_int_int.row ?_, hb'⟩
    have : l0.take l0.length = l0 := List.take_length
    rw [this] at ho
    exact ho
   ·
    have h0 : l0 = [] := List.eq_nil_of_length_eq_zero (by omega)
    subst h0
    refine (Any.slices_Clone_int_zero slices_Clone_int_int.lays ad c0 w).mono ?_
    rintro e w' ⟨v', rfl, ho, _, hb'⟩
    exact ⟨v', rfl, slices_Clone_int_int.row ho, hb'⟩
 ·
  rw [if_neg hb] at h
  cases h
theorem slices_Clone_int_int.ac (l0 : List Int) (r : List Int) (h : slices_Clone_int_int.f l0 = some r) : ACalls Try.prog 37 [.row 1 l0.length false (ints .i64 l0)] [] (fun v H' => v = .own 0 r.length ∧ H' = [.sl 3 1 r.length false (ints .i64 r)]) := by
 unfold slices_Clone_int_int.f at h
 by_cases hb : l0.length * 8 ≤ 140737488355328
 ·
  rw [if_pos hb] at h
  injection h with h
  subst h
  intro R F A w vs hi hvs
  match vs, hvs with
  | [], hvs => simp [VRs] at hvs
  | [c], hvs =>
   simp only [VRs, and_true] at hvs
   rcases VR.ints_cells hvs with ⟨rfl, h0⟩ | ⟨a, cap, rfl, hc, hcell⟩
   ·
    subst h0
    refine (Any.slices_Clone_int_nil slices_Clone_int_int.lays 0 0 w).mono ?_
    rintro e w' ⟨rfl, rfl⟩
    exact CallPost.fresh (vs := []) hi rfl (World.ownsRow_nil _ _ _ _) (Below.refl _ _) (fun _ _ _ _ => by simp [VRs, ints])
   ·
    by_cases hp : 0 < l0.length
    ·
     obtain ⟨b, off, rfl, _, hcc⟩ := hcell hp
     refine (Any.slices_Clone_int slices_Clone_int_int.lays b off l0.length cap l0 w (Nat.le_refl _) hb hcc).mono ?_
     rintro e w' ⟨v', rfl, ho, _, hb'⟩
     have ht : l0.take l0.length = l0 := List.take_length
     rw [ht] at ho
     exact CallPost.fresh hi rfl ho hb' (fun _ _ _ _ => VRs_ints .i64 l0)
    ·
     have h0 : l0 = [] := List.eq_nil_of_length_eq_zero (by omega)
     subst h0
     refine (Any.slices_Clone_int_zero slices_Clone_int_int.lays a cap w).mono ?_
     rintro e w' ⟨v', rfl, ho, _, hb'⟩
     exact CallPost.fresh hi rfl ho hb' (fun _ _ _ _ => by simp [VRs, ints])
  | _ :: _ :: _, hvs => simp [VRs] at hvs
 ·
  rw [if_neg hb] at h
  cases h

end Go.Proofs.Ytboaffpfphkneaa.PFnExactMeetOfBiorders
