-- Written by a program of this session's (wip/myprint2): the functions by the kit's print, the walks by awgen.py. Lean checks it.
import Derived.Test.YtpippjgphndjmaaPFnMeetsOfBiordersx0
import Derived.Test.YtpippjgphndjmaaPFnMeetsOfBiordersx1
namespace Go.Proofs.Ytpippjgphndjmaa.PFnMeetsOfBiorders
open Go.RowKit Go.Proofs.YtpippjgphndjmaaW.PrintWords Go.Proofs.YtpippjgphndjmaaW.PrintLast Go.Proofs.YtpippjgphndjmaaW.PrintMore Go.Proofs.YtpippjgphndjmaaM Go.Proofs.YtpippjgphndjmaaA
attribute [local go_sem] max2_int min2_int max_two min_two max_three min_three max_four min_four   -- for this text's walks alone
set_option linter.unusedVariables false
set_option linter.unusedSimpArgs false

/-! ### spec_feOrder: function 56 -/
mutual
def spec_feOrder.l0 : Nat → List Int → List Int → Int → Int → List Int → Option (List Int × Bool)
 | 0, _, _, _, _, _ => none
 | k + 1, x1, x6, x120000, x120001, x120002 => if (x6.length : Int) < x120000 then (spec_feOrder.l1 k x1 x6 (-1) (wrap64 (x120000 - 1)) x120000 x120001 x120002) else (some (x6, true))
def spec_feOrder.l1 : Nat → List Int → List Int → Int → Int → Int → Int → List Int → Option (List Int × Bool)
 | 0, _, _, _, _, _, _, _ => none
 | k + 1, x1, x6, x7, x8, x120000, x120001, x120002 => if x8 ≥ 0 then ((spec_l1Has.f k x6 x8).bind fun t123 => (if t123 = true then (spec_feOrder.l1 k x1 x6 x7 (wrap64 (x8 - 1)) x120000 x120001 x120002) else (spec_feOrder.l2 k x1 x6 x7 x8 true x1 (x1.length : Int) 0 x120000 x120001 x120002))) else (if x7 < 0 then (some (([] : List Int), false)) else (if x6.length < 17592186044416 then (spec_feOrder.l0 k x1 (x6 ++ [x7]) x120000 x120001 x120002) else (none)))
def spec_feOrder.l2 : Nat → List Int → List Int → Int → Int → Bool → List Int → Int → Int → Int → Int → List Int → Option (List Int × Bool)
 | 0, _, _, _, _, _, _, _, _, _, _, _ => none
 | k + 1, x1, x6, x7, x8, x9, x28, x29, x30, x120000, x120001, x120002 => if x30 < x29 then (if 0 ≤ x30 then (if x30 < (x28.length : Int) then (if x120001 = 0 then (none) else ((spec_l1Has.f k x6 (wrap64 (Int.tdiv (rd x28 x30) x120001))).bind fun t125 => (if t125 = true then (spec_feOrder.l2 k x1 x6 x7 x8 x9 x28 x29 (wrap64 (x30 + 1)) x120000 x120001 x120002) else (if 0 ≤ x8 then (if x8 < (x120002.length : Int) then ((spec_orHas.f (rd x120002 x8) (Int.tmod (rd x28 x30) x120001)).bind fun t127 => (if t127 = true then (spec_feOrder.l2 k x1 x6 x7 x8 false x28 x29 (wrap64 (x30 + 1)) x120000 x120001 x120002) else (spec_feOrder.l2 k x1 x6 x7 x8 x9 x28 x29 (wrap64 (x30 + 1)) x120000 x120001 x120002))) else (none)) else (none))))) else (none)) else (none)) else (if x9 = true then (spec_feOrder.l1 k x1 x6 x8 (wrap64 (x8 - 1)) x120000 x120001 x120002) else (spec_feOrder.l1 k x1 x6 x7 (wrap64 (x8 - 1)) x120000 x120001 x120002))
end
def spec_feOrder.f (k : Nat) (a0_0 : Int) (a0_1 : Int) (l0_2 : List Int) (l1 : List Int) : Option (List Int × Bool) := spec_feOrder.l0 k l1 ([] : List Int) a0_0 a0_1 l0_2
set_option maxRecDepth 100000 in
set_option maxHeartbeats 20000000 in
theorem spec_feOrder.ac (k : Nat) (a0_0 : Int) (a0_1 : Int) (l0_2 : List Int) (l1 : List Int) (r1 : List Int) (r2 : Bool) (h : spec_feOrder.f k a0_0 a0_1 l0_2 l1 = some (r1, r2)) :
  ACalls Try.prog 56 [.agg [.lit (.int .i64 a0_0), .lit (.int .i64 a0_1), .row 1 l0_2.length false (ints .i64 l0_2)], .row 1 l1.length false (ints .i64 l1)] [] (fun v H' => v = .tup [.own 0 r1.length, .lit (.bool r2)] ∧ H' = [.sl 3 1 r1.length false (ints .i64 r1)]) := by
 refine ACalls.ofP [4, 5] Try.func56 rfl (by exact Nat.le_of_ble_eq_true rfl) rfl (by decide) ?_
 simp only [Try.ntmps56, env0, spec_feOrder.f] at h ⊢
 refine AWp.seq ?_
 refine AWp.region ?_
 refine L.M M.bx ?_
 refine L.Y Y.asg ?_
 refine L.Y Y.asg ?_
 refine AList.nil ?_
 refine AWp.seq ?_
 refine AWp.region ?_
 refine L.Y Y.asg ?_
 refine AList.nil ?_
 refine AWp.seq ?_
 refine AWp.block ?_
 refine AWp.loopI (fun kk e H => kk ≤ k ∧ ∃ (x6 : List Int) (x120000 : Int) (x120001 : Int), e = [(1, .row 1 l1.length false (ints .i64 l1)), (2, .ptr 0 0), (6, .own 1 x6.length)] ∧ H = [.bx 28 [.lit (.int .i64 x120000), .lit (.int .i64 x120001), .row 1 l0_2.length false (ints .i64 l0_2)], .sl 3 1 x6.length false (ints .i64 x6)] ∧ spec_feOrder.l0 kk l1 x6 x120000 x120001 l0_2 = some (r1, r2)) (k := k)
  ⟨_, _, ⟨Nat.le_refl _, _, _, _, rfl, rfl, h⟩, IsPart.at [(3, 1)] [0, 1] base0 (H.c (H.c .nil)) (E.c (E.c (E.c .nil)))⟩ ?_
 clear h
 rintro k1 e H ⟨hk2, x6, x120000, x120001, rfl, rfl, h⟩
 cases k1 with
 | zero => exact absurd h (by simp [spec_feOrder.l0])
 | succ k1 =>
 simp only [spec_feOrder.l0] at h
 refine AWp.seq ?_
 refine AWp.seq ?_
 refine AWp.region ?_
 refine L.Y Y.mv ?_
 refine L.Y (Y.ln Try.underlying22) ?_
 refine L.Y (Y.fa (off := 0) Try.underlying28 Y3) ?_
 refine L.S (S.ld Try.underlying3) ?_
 refine L.Y Y.bin ?_
 refine AList.nil ?_
 refine W.cond (fun hb => ?_) (fun hb => ?_)
 ·
  have hb3 := hb
  try simp only [hS, hE, ne_eq] at hb
  first | rw [if_pos hb3] at h | rw [if_neg (Bool.eq_false_iff.1 hb3)] at h | rw [if_pos hb] at h | rw [if_neg hb] at h | (simp only [hb, hT, reduceIte] at h) | skip
  refine AWp.skip ?_
  refine AWp.block ?_
  refine AWp.seq ?_
  refine W.kp [1, 2, 6, 17] ?_
  refine AWp.region ?_
  refine L.Y Y.asg ?_
  refine AList.nil ?_
  refine AWp.seq ?_
  refine AWp.seq ?_
  refine AWp.region ?_
  refine L.Y (Y.fa (off := 0) Try.underlying28 Y3) ?_
  refine L.S (S.ld Try.underlying3) ?_
  refine L.Y Y.bin ?_
  refine L.Y Y.asg ?_
  refine AList.nil ?_
  refine AWp.block ?_
  refine AWp.loopI (fun kk e H => kk ≤ k1 ∧ ∃ (x6 : List Int) (x7 : Int) (x8 : Int) (x120000 : Int) (x120001 : Int), e = [(1, .row 1 l1.length false (ints .i64 l1)), (2, .ptr 0 0), (6, .own 1 x6.length), (7, .lit (.int .i64 x7)), (8, .lit (.int .i64 x8))] ∧ H = [.bx 28 [.lit (.int .i64 x120000), .lit (.int .i64 x120001), .row 1 l0_2.length false (ints .i64 l0_2)], .sl 3 1 x6.length false (ints .i64 x6)] ∧ spec_feOrder.l1 kk l1 x6 x7 x8 x120000 x120001 l0_2 = some (r1, r2)) (k := k1)
   ⟨_, _, ⟨Nat.le_refl _, _, _, _, _, _, rfl, rfl, h⟩, IsPart.at [] [0, 1] base0 (H.c (H.c .nil)) (E.c (E.c (E.c (E.c (E.c .nil)))))⟩ ?_
  clear h
  rintro k4 e H ⟨hk5, x6, x7, x8, x120000, x120001, rfl, rfl, h⟩
  cases k4 with
  | zero => exact absurd h (by simp [spec_feOrder.l1])
  | succ k4 =>
  simp only [spec_feOrder.l1] at h
  refine AWp.seq ?_
  refine AWp.seq ?_
  refine AWp.region ?_
  refine L.Y Y.mv ?_
  refine L.Y Y.bin ?_
  refine AList.nil ?_
  refine W.cond (fun hb => ?_) (fun hb => ?_)
  ·
   have hb6 := hb
   try simp only [hS, hE, ne_eq] at hb
   first | rw [if_pos hb6] at h | rw [if_neg (Bool.eq_false_iff.1 hb6)] at h | rw [if_pos hb] at h | rw [if_neg hb] at h | (simp only [hb, hT, reduceIte] at h) | skip
   refine AWp.skip ?_
   refine AWp.seq ?_
   refine AWp.block ?_
   refine AWp.seq ?_
   refine AWp.seq ?_
   refine AWp.region ?_
   refine L.Y Y.mv ?_
   refine L.Y Y.mv ?_
   obtain ⟨t123, hc7, h⟩ := Option.bind_eq_some_iff.1 h
   refine L.C (C.callE (l := true) [] Try.func76 (spec_l1Has.ac _ _ _ _ hc7) .nil ?_)
   refine AList.nil ?_
   refine W.cond (fun hb => ?_) (fun hb => ?_)
   ·
    have hb8 := hb
    try simp only [hS, hE, ne_eq] at hb
    first | rw [if_pos hb8] at h | rw [if_neg (Bool.eq_false_iff.1 hb8)] at h | rw [if_pos hb] at h | rw [if_neg hb] at h | (simp only [hb, hT, reduceIte] at h) | skip
    refine AWp.exit ?_
    refine AWp.region ?_
    refine L.Y Y.mv ?_
    refine L.Y Y.bin ?_
    refine L.Y Y.asg ?_
    refine AList.nil ?_
    exact ⟨k4, by omega, _, _, ⟨by omega, _, _, _, _, _, rfl, rfl, h⟩, IsPart.at [] [0, 1] base0 (H.c (H.c .nil)) (E.c (E.c (E.c (E.c (E.c .nil)))))⟩
   ·
    have hb8 := hb
    try simp only [hS, hE, ne_eq] at hb
    first | rw [if_pos hb8] at h | rw [if_neg (Bool.eq_false_iff.1 hb8)] at h | rw [if_pos hb] at h | rw [if_neg hb] at h | (simp only [hb, hT, reduceIte] at h) | skip
    refine AWp.skip ?_
    refine AWp.seq ?_
    refine AWp.region ?_
    refine L.Y Y.asg ?_
    refine AList.nil ?_
    refine AWp.seq ?_
    refine AWp.seq ?_
    refine AWp.region ?_
    refine L.Y Y.mv ?_
    refine L.Y (Y.ln Try.underlying22) ?_
    refine L.Y Y.mv ?_
    refine AList.nil ?_
    refine AWp.block ?_
    refine AWp.loopI (fun kk e H => kk ≤ k4 ∧ ∃ (x6 : List Int) (x7 : Int) (x8 : Int) (x9 : Bool) (x29 : Int) (x30 : Int) (x120000 : Int) (x120001 : Int), e = [(1, .row 1 l1.length false (ints .i64 l1)), (2, .ptr 0 0), (6, .own 1 x6.length), (7, .lit (.int .i64 x7)), (8, .lit (.int .i64 x8)), (9, .lit (.bool x9)), (28, .row 1 l1.length false (ints .i64 l1)), (29, .lit (.int .i64 x29)), (30, .lit (.int .i64 x30))] ∧ H = [.bx 28 [.lit (.int .i64 x120000), .lit (.int .i64 x120001), .row 1 l0_2.length false (ints .i64 l0_2)], .sl 3 1 x6.length false (ints .i64 x6)] ∧ spec_feOrder.l2 kk l1 x6 x7 x8 x9 l1 x29 x30 x120000 x120001 l0_2 = some (r1, r2)) (k := k4)
     ⟨_, _, ⟨Nat.le_refl _, _, _, _, _, _, _, _, _, rfl, rfl, h⟩, IsPart.at [] [0, 1] base0 (H.c (H.c .nil)) (E.c (E.c (E.c (E.c (E.c (E.c (E.c (E.c (E.c .nil)))))))))⟩ ?_
    clear h
    rintro k9 e H ⟨hk10, x6, x7, x8, x9, x29, x30, x120000, x120001, rfl, rfl, h⟩
    cases k9 with
    | zero => exact absurd h (by simp [spec_feOrder.l2])
    | succ k9 =>
    simp only [spec_feOrder.l2] at h
    refine AWp.seq ?_
    refine AWp.region ?_
    refine L.Y Y.bin ?_
    refine AList.nil ?_
    refine AWp.seq ?_
    refine W.cond (fun hb => ?_) (fun hb => ?_)
    ·
     have hb11 := hb
     try simp only [hS, hE, ne_eq] at hb
     first | rw [if_pos hb11] at h | rw [if_neg (Bool.eq_false_iff.1 hb11)] at h | rw [if_pos hb] at h | rw [if_neg hb] at h | (simp only [hb, hT, reduceIte] at h) | skip
     repeat (first | (rw [iN] at h; obtain ⟨_, h⟩ := h) | (rw [iP] at h; obtain ⟨_, h⟩ := h) | (simp only [bS] at h))
     refine AWp.skip ?_
     refine AWp.seq ?_
     refine AWp.block ?_
     refine AWp.seq ?_
     refine AWp.region ?_
     refine L.Y (Y.ixr Try.underlying22 Y3) ?_
     refine L.S (S.ld Try.underlying3) ?_
     refine L.Y Y.asg ?_
     refine AList.nil ?_
     refine AWp.seq ?_
     refine AWp.region ?_
     refine L.Y Y.mv ?_
     refine L.Y (Y.fa (off := 1) Try.underlying28 Y3) ?_
     refine L.S (S.ld Try.underlying3) ?_
     refine L.Y Y.bin ?_
     refine L.Y Y.asg ?_
     refine AList.nil ?_
     refine AWp.seq ?_
     refine W.kp [1, 2, 6, 7, 8, 9, 11, 12, 28, 29, 30, 31] ?_
     refine Dt.reg [] [] (.y 0 (.y 1 (.one 2 (.y 3 (.y 4 (.y 5 (.t 6 (.y 7 (.y 8 (.t 9 (.y 10 (.y 11 (.t 12 (.y 13 (.one 14 (.y 15 .done)))))))))))))))) HM ?_
     refine Dt.Y rfl wantN Y.mv ?_
     refine Dt.Y rfl wantN Y.mv ?_
     refine Dt.O (g' := false) rfl wantN ?_
     obtain ⟨t125, hc12, h⟩ := Option.bind_eq_some_iff.1 h
     refine Ox.C true [] Try.func76 (spec_l1Has.ac _ _ _ _ hc12) .nil ?_
     refine Dt.Y rfl wantN Y.nt ?_
     refine Dt.Y rfl wantN Y.mv ?_
     refine Dt.F 42 (fun hb => ?_) (fun hb => ?_)
     ·
      have hb13 := hb
      try simp only [hS, hE, ne_eq] at hb
      first | rw [if_pos hb13] at h | rw [if_neg (Bool.eq_false_iff.1 hb13)] at h | rw [if_pos hb] at h | rw [if_neg hb] at h | (simp only [hb, hT, reduceIte] at h) | skip
      repeat (first | (rw [iN] at h; obtain ⟨_, h⟩ := h) | (rw [iP] at h; obtain ⟨_, h⟩ := h) | (simp only [bS] at h))
      refine Dt.Y rfl (wantY hb13) (Y.fa (off := 2) Try.underlying28 Y22) ?_
      refine Dt.T rfl (wantY hb13) (D.ld Try.underlying22) ?_
      refine Dt.Y rfl (wantY hb13) Y.mv ?_
      refine Dt.Y rfl (wantY hb13) (Y.ixr Try.underlying22 Y3) ?_
      refine Dt.T rfl (wantY hb13) (D.ld Try.underlying3) ?_
      refine Dt.Y rfl (wantY hb13) Y.mv ?_
      refine Dt.Y rfl (wantY hb13) (Y.fa (off := 1) Try.underlying28 Y3) ?_
      refine Dt.T rfl (wantY hb13) (D.ld Try.underlying3) ?_
      refine Dt.Y rfl (wantY hb13) Y.bin ?_
      refine Dt.O (g' := false) rfl (wantY hb13) ?_
      obtain ⟨t127, hc14, h⟩ := Option.bind_eq_some_iff.1 h
      refine Ox.C true [] Try.func69 (spec_orHas.ac _ _ _ hc14) .nil ?_
      refine Dt.Y rfl wantN (Y.pk (c := true) hb13) ?_
      refine Dt.nil ?_
      refine W.cond (fun hb => ?_) (fun hb => ?_)
      ·
       have hb15 := hb
       try simp only [hS, hE, ne_eq] at hb
       first | rw [if_pos hb15] at h | rw [if_neg (Bool.eq_false_iff.1 hb15)] at h | rw [if_pos hb] at h | rw [if_neg hb] at h | (simp only [hb, hT, reduceIte] at h) | skip
       refine W.kp [1, 2, 6, 7, 8, 9, 11, 12, 28, 29, 30, 31, 53] ?_
       refine AWp.region ?_
       refine L.Y Y.asg ?_
       refine AList.nil ?_
       refine AWp.region ?_
       refine L.Y Y.bin ?_
       refine L.Y Y.mv ?_
       refine AList.nil ?_
       exact ⟨k9, by omega, _, _, ⟨by omega, _, _, _, _, _, _, _, _, rfl, rfl, h⟩, IsPart.at [] [0, 1] base0 (H.c (H.c .nil)) (E.c (E.c (E.c (E.c (E.c (E.c (E.c (E.c (E.c .nil)))))))))⟩
      ·
       have hb15 := hb
       try simp only [hS, hE, ne_eq] at hb
       first | rw [if_pos hb15] at h | rw [if_neg (Bool.eq_false_iff.1 hb15)] at h | rw [if_pos hb] at h | rw [if_neg hb] at h | (simp only [hb, hT, reduceIte] at h) | skip
       refine AWp.skip ?_
       refine W.kp [1, 2, 6, 7, 8, 9, 11, 12, 28, 29, 30, 31, 53] ?_
       refine AWp.region ?_
       refine L.Y Y.bin ?_
       refine L.Y Y.mv ?_
       refine AList.nil ?_
       exact ⟨k9, by omega, _, _, ⟨by omega, _, _, _, _, _, _, _, _, rfl, rfl, h⟩, IsPart.at [] [0, 1] base0 (H.c (H.c .nil)) (E.c (E.c (E.c (E.c (E.c (E.c (E.c (E.c (E.c .nil)))))))))⟩
     ·
      have hb13 := hb
      try simp only [hS, hE, ne_eq] at hb
      first | rw [if_pos hb13] at h | rw [if_neg (Bool.eq_false_iff.1 hb13)] at h | rw [if_pos hb] at h | rw [if_neg hb] at h | (simp only [hb, hT, reduceIte] at h) | skip
      refine Dt.No rfl (wantZ hb13) ?_
      refine Dt.Nt rfl (wantZ hb13) ?_
      refine Dt.No rfl (wantZ hb13) ?_
      refine Dt.No rfl (wantZ hb13) ?_
      refine Dt.Nt rfl (wantZ hb13) ?_
      refine Dt.No rfl (wantZ hb13) ?_
      refine Dt.No rfl (wantZ hb13) ?_
      refine Dt.Nt rfl (wantZ hb13) ?_
      refine Dt.No rfl (wantZ hb13) ?_
      refine Dt.Po rfl (wantZ hb13) ?_
      refine Dt.Y rfl wantN (Y.pk (c := false) hb13) ?_
      refine Dt.nil ?_
      refine W.cond (fun hb => ?_) (fun hb => ?_)
      ·
       exact DD hb
      have hb16 := hb
      refine AWp.skip ?_
      refine W.kp [1, 2, 6, 7, 8, 9, 11, 12, 28, 29, 30, 31, 53] ?_
      refine AWp.region ?_
      refine L.Y Y.bin ?_
      refine L.Y Y.mv ?_
      refine AList.nil ?_
      exact ⟨k9, by omega, _, _, ⟨by omega, _, _, _, _, _, _, _, _, rfl, rfl, h⟩, IsPart.at [] [0, 1] base0 (H.c (H.c .nil)) (E.c (E.c (E.c (E.c (E.c (E.c (E.c (E.c (E.c .nil)))))))))⟩
    ·
     have hb11 := hb
     try simp only [hS, hE, ne_eq] at hb
     first | rw [if_pos hb11] at h | rw [if_neg (Bool.eq_false_iff.1 hb11)] at h | rw [if_pos hb] at h | rw [if_neg hb] at h | (simp only [hb, hT, reduceIte] at h) | skip
     refine AWp.exit ?_
     refine AWp.seq ?_
     refine AWp.region ?_
     refine L.Y Y.mv ?_
     refine AList.nil ?_
     refine W.cond (fun hb => ?_) (fun hb => ?_)
     ·
      have hb17 := hb
      try simp only [hS, hE, ne_eq] at hb
      first | rw [if_pos hb17] at h | rw [if_neg (Bool.eq_false_iff.1 hb17)] at h | rw [if_pos hb] at h | rw [if_neg hb] at h | (simp only [hb, hT, reduceIte] at h) | skip
      refine AWp.region ?_
      refine L.Y Y.mv ?_
      refine L.Y Y.asg ?_
      refine AList.nil ?_
      refine AWp.region ?_
      refine L.Y Y.mv ?_
      refine L.Y Y.bin ?_
      refine L.Y Y.asg ?_
      refine AList.nil ?_
      exact ⟨k9, by omega, _, _, ⟨by omega, _, _, _, _, _, rfl, rfl, h⟩, IsPart.at [] [0, 1] base0 (H.c (H.c .nil)) (E.c (E.c (E.c (E.c (E.c .nil)))))⟩
     ·
      have hb17 := hb
      try simp only [hS, hE, ne_eq] at hb
      first | rw [if_pos hb17] at h | rw [if_neg (Bool.eq_false_iff.1 hb17)] at h | rw [if_pos hb] at h | rw [if_neg hb] at h | (simp only [hb, hT, reduceIte] at h) | skip
      refine AWp.skip ?_
      refine AWp.region ?_
      refine L.Y Y.mv ?_
      refine L.Y Y.bin ?_
      refine L.Y Y.asg ?_
      refine AList.nil ?_
      exact ⟨k9, by omega, _, _, ⟨by omega, _, _, _, _, _, rfl, rfl, h⟩, IsPart.at [] [0, 1] base0 (H.c (H.c .nil)) (E.c (E.c (E.c (E.c (E.c .nil)))))⟩
  ·
   have hb6 := hb
   try simp only [hS, hE, ne_eq] at hb
   first | rw [if_pos hb6] at h | rw [if_neg (Bool.eq_false_iff.1 hb6)] at h | rw [if_pos hb] at h | rw [if_neg hb] at h | (simp only [hb, hT, reduceIte] at h) | skip
   refine AWp.exit ?_
   refine AWp.seq ?_
   refine AWp.seq ?_
   refine AWp.region ?_
   refine L.Y Y.mv ?_
   refine L.Y Y.bin ?_
   refine AList.nil ?_
   refine W.cond (fun hb => ?_) (fun hb => ?_)
   ·
    have hb18 := hb
    try simp only [hS, hE, ne_eq] at hb
    first | rw [if_pos hb18] at h | rw [if_neg (Bool.eq_false_iff.1 hb18)] at h | rw [if_pos hb] at h | rw [if_neg hb] at h | (simp only [hb, hT, reduceIte] at h) | skip
    refine AWp.seq ?_
    refine AWp.region ?_
    refine L.Y Y.asg ?_
    refine L.Y Y.asg ?_
    refine AList.nil ?_
    simp only [Option.some.injEq, Prod.mk.injEq] at h
    obtain ⟨rfl, rfl⟩ := h
    refine AWp.ret ?_
    exact ⟨.inr rfl, [(4, _), (5, _)], _, ⟨rfl, rfl⟩, IsPart.at [(3, 1)] [2] base0 (H.c .nil) (E.c (E.c .nil))⟩
   ·
    have hb18 := hb
    try simp only [hS, hE, ne_eq] at hb
    first | rw [if_pos hb18] at h | rw [if_neg (Bool.eq_false_iff.1 hb18)] at h | rw [if_pos hb] at h | rw [if_neg hb] at h | (simp only [hb, hT, reduceIte] at h) | skip
    repeat (first | (rw [iN] at h; obtain ⟨_, h⟩ := h) | (rw [iP] at h; obtain ⟨_, h⟩ := h) | (simp only [bS] at h))
    refine AWp.skip ?_
    refine AWp.region ?_
    refine L.Y Y.mv ?_
    refine L.Y Y.mv ?_
    refine L.M (M.bs Try.underlying22 Y3) ?_
    refine L.S (S.ap (nn' := false) Try.underlying22 Y3) ?_
    refine L.Y Y.asg ?_
    refine AList.nil ?_
    exact ⟨k4, by omega, _, _, ⟨by omega, _, _, _, rfl, rfl, h⟩, IsPart.at [] [0, 1] base0 (H.c (H.c .nil)) (E.c (E.c (E.c .nil)))⟩
 ·
  have hb3 := hb
  try simp only [hS, hE, ne_eq] at hb
  first | rw [if_pos hb3] at h | rw [if_neg (Bool.eq_false_iff.1 hb3)] at h | rw [if_pos hb] at h | rw [if_neg hb] at h | (simp only [hb, hT, reduceIte] at h) | skip
  refine AWp.exit ?_
  refine AWp.seq ?_
  refine W.kp [1, 2, 6, 17] ?_
  refine AWp.region ?_
  refine L.Y Y.mv ?_
  refine L.Y Y.asg ?_
  refine L.Y Y.asg ?_
  refine AList.nil ?_
  simp only [Option.some.injEq, Prod.mk.injEq] at h
  obtain ⟨rfl, rfl⟩ := h
  refine AWp.ret ?_
  exact ⟨.inr rfl, [(4, _), (5, _)], _, ⟨rfl, rfl⟩, IsPart.at [] [1] base0 (H.c .nil) (E.c (E.c .nil))⟩

/-! ### spec_fePart: function 61 -/
def spec_fePart.l0 : Nat → List Int → Int → List Int → List Int → Int → Int → Option (List Int)
 | 0, _, _, _, _, _, _ => none
 | k + 1, x0, x2, x7, x10, x11, x12 => if x12 < x11 then (if 0 ≤ x12 then (if x12 < (x10.length : Int) then (if (rd x10 x12) = x2 then (if x12 < (x0.length : Int) then (if x7.length < 17592186044416 then (spec_fePart.l0 k x0 x2 (x7 ++ [rd x0 x12]) x10 x11 (wrap64 (x12 + 1))) else (none)) else (none)) else (spec_fePart.l0 k x0 x2 x7 x10 x11 (wrap64 (x12 + 1)))) else (none)) else (none)) else (some x7)
def spec_fePart.f (k : Nat) (l0 : List Int) (l1 : List Int) (a2 : Int) : Option (List Int) := spec_fePart.l0 k l0 a2 ([] : List Int) l1 (l1.length : Int) 0
set_option maxRecDepth 100000 in
set_option maxHeartbeats 20000000 in
theorem spec_fePart.ac (k : Nat) (l0 : List Int) (l1 : List Int) (a2 : Int) (r : List Int) (h : spec_fePart.f k l0 l1 a2 = some r) :
  ACalls Try.prog 61 [.row 1 l0.length false (ints .i64 l0), .row 1 l1.length false (ints .i64 l1), .lit (.int .i64 a2)] [] (fun v H' => v = .own 0 r.length ∧ H' = [.sl 3 1 r.length false (ints .i64 r)]) := by
 refine ACalls.ofP [6] Try.func61 rfl (by exact Nat.le_of_ble_eq_true rfl) rfl (by decide) ?_
 simp only [Try.ntmps61, env0, spec_fePart.f] at h ⊢
 refine AWp.seq ?_
 refine AWp.region ?_
 refine L.Y Y.asg ?_
 refine AList.nil ?_
 refine AWp.seq ?_
 refine AWp.region ?_
 refine L.Y Y.asg ?_
 refine AList.nil ?_
 refine AWp.seq ?_
 refine AWp.seq ?_
 refine AWp.region ?_
 refine L.Y Y.mv ?_
 refine L.Y (Y.ln Try.underlying22) ?_
 refine L.Y Y.mv ?_
 refine AList.nil ?_
 refine AWp.block ?_
 refine AWp.loopI (fun kk e H => kk ≤ k ∧ ∃ (x2 : Int) (x7 : List Int) (x11 : Int) (x12 : Int), e = [(0, .row 1 l0.length false (ints .i64 l0)), (2, .lit (.int .i64 x2)), (6, .lit (.slice none 0 0)), (7, .own 0 x7.length), (10, .row 1 l1.length false (ints .i64 l1)), (11, .lit (.int .i64 x11)), (12, .lit (.int .i64 x12))] ∧ H = [.sl 3 1 x7.length false (ints .i64 x7)] ∧ spec_fePart.l0 kk l0 x2 x7 l1 x11 x12 = some r) (k := k)
  ⟨_, _, ⟨Nat.le_refl _, _, _, _, _, rfl, rfl, h⟩, IsPart.at [(3, 1)] [0] base0 (H.c .nil) (E.c (E.c (E.c (E.c (E.c (E.c (E.c .nil)))))))⟩ ?_
 clear h
 rintro k1 e H ⟨hk2, x2, x7, x11, x12, rfl, rfl, h⟩
 cases k1 with
 | zero => exact absurd h (by simp [spec_fePart.l0])
 | succ k1 =>
 simp only [spec_fePart.l0] at h
 refine AWp.seq ?_
 refine AWp.region ?_
 refine L.Y Y.bin ?_
 refine AList.nil ?_
 refine AWp.seq ?_
 refine W.cond (fun hb => ?_) (fun hb => ?_)
 ·
  have hb3 := hb
  try simp only [hS, hE, ne_eq] at hb
  first | rw [if_pos hb3] at h | rw [if_neg (Bool.eq_false_iff.1 hb3)] at h | rw [if_pos hb] at h | rw [if_neg hb] at h | (simp only [hb, hT, reduceIte] at h) | skip
  repeat (first | (rw [iN] at h; obtain ⟨_, h⟩ := h) | (rw [iP] at h; obtain ⟨_, h⟩ := h) | (simp only [bS] at h))
  refine AWp.skip ?_
  refine AWp.seq ?_
  refine AWp.block ?_
  refine AWp.seq ?_
  refine AWp.region ?_
  refine L.Y Y.mv ?_
  refine L.Y (Y.ixr Try.underlying22 Y3) ?_
  refine L.S (S.ld Try.underlying3) ?_
  refine L.Y Y.asg ?_
  refine L.Y Y.asg ?_
  refine AList.nil ?_
  refine AWp.seq ?_
  refine AWp.region ?_
  refine L.Y Y.mv ?_
  refine L.Y Y.mv ?_
  refine L.Y Y.bin ?_
  refine AList.nil ?_
  refine W.cond (fun hb => ?_) (fun hb => ?_)
  ·
   have hb4 := hb
   try simp only [hS, hE, ne_eq] at hb
   first | rw [if_pos hb4] at h | rw [if_neg (Bool.eq_false_iff.1 hb4)] at h | rw [if_pos hb] at h | rw [if_neg hb] at h | (simp only [hb, hT, reduceIte] at h) | skip
   repeat (first | (rw [iN] at h; obtain ⟨_, h⟩ := h) | (rw [iP] at h; obtain ⟨_, h⟩ := h) | (simp only [bS] at h))
   refine W.kp [0, 2, 6, 7, 8, 9, 10, 11, 12, 13, 19] ?_
   refine AWp.region ?_
   refine L.Y Y.mv ?_
   refine L.Y Y.mv ?_
   refine L.Y Y.mv ?_
   refine L.Y (Y.ixr Try.underlying22 Y3) ?_
   refine L.S (S.ld Try.underlying3) ?_
   refine L.M (M.bs Try.underlying22 Y3) ?_
   refine L.S (S.ap (nn' := false) Try.underlying22 Y3) ?_
   refine L.Y Y.asg ?_
   refine AList.nil ?_
   refine W.kp [0, 2, 6, 7, 8, 9, 10, 11, 12, 13, 19] ?_
   refine AWp.region ?_
   refine L.Y Y.bin ?_
   refine L.Y Y.mv ?_
   refine AList.nil ?_
   exact ⟨k1, by omega, _, _, ⟨by omega, _, _, _, _, rfl, rfl, h⟩, IsPart.at [] [0] base0 (H.c .nil) (E.c (E.c (E.c (E.c (E.c (E.c (E.c .nil)))))))⟩
  ·
   have hb4 := hb
   try simp only [hS, hE, ne_eq] at hb
   first | rw [if_pos hb4] at h | rw [if_neg (Bool.eq_false_iff.1 hb4)] at h | rw [if_pos hb] at h | rw [if_neg hb] at h | (simp only [hb, hT, reduceIte] at h) | skip
   refine AWp.skip ?_
   refine W.kp [0, 2, 6, 7, 8, 9, 10, 11, 12, 13, 19] ?_
   refine AWp.region ?_
   refine L.Y Y.bin ?_
   refine L.Y Y.mv ?_
   refine AList.nil ?_
   exact ⟨k1, by omega, _, _, ⟨by omega, _, _, _, _, rfl, rfl, h⟩, IsPart.at [] [0] base0 (H.c .nil) (E.c (E.c (E.c (E.c (E.c (E.c (E.c .nil)))))))⟩
 ·
  have hb3 := hb
  try simp only [hS, hE, ne_eq] at hb
  first | rw [if_pos hb3] at h | rw [if_neg (Bool.eq_false_iff.1 hb3)] at h | rw [if_pos hb] at h | rw [if_neg hb] at h | (simp only [hb, hT, reduceIte] at h) | skip
  refine AWp.exit ?_
  refine AWp.seq ?_
  refine AWp.region ?_
  refine L.Y Y.mv ?_
  refine L.Y Y.asg ?_
  refine AList.nil ?_
  obtain rfl := Option.some.inj h
  refine AWp.ret ?_
  exact ⟨.inr rfl, [(6, _)], _, ⟨rfl, rfl⟩, IsPart.at [] [0] base0 (H.c .nil) (E.c .nil)⟩

/-! ### spec_l1Own: function 68 -/
def spec_l1Own.f (l0 : List Int) : Option (List Int) := (some (([] : List Int) : List Int)).bind fun y133 => (if y133.length + l0.length < 17592186044416 then (some (y133 ++ l0)) else (none))
set_option maxRecDepth 100000 in
set_option maxHeartbeats 20000000 in
theorem spec_l1Own.ac (l0 : List Int) (r : List Int) (h : spec_l1Own.f l0 = some r) :
  ACalls Try.prog 68 [.row 1 l0.length false (ints .i64 l0)] [] (fun v H' => v = .own 0 r.length ∧ H' = [.sl 3 1 r.length false (ints .i64 r)]) := by
 refine ACalls.ofP [2] Try.func68 rfl (by exact Nat.le_of_ble_eq_true rfl) rfl (by decide) ?_
 simp only [Try.ntmps68, env0, spec_l1Own.f] at h ⊢
 repeat (first | (rw [iN] at h; obtain ⟨_, h⟩ := h) | (rw [iP] at h; obtain ⟨_, h⟩ := h) | (simp only [bS] at h))
 refine AWp.seq ?_
 refine AWp.region ?_
 refine L.Y Y.asg ?_
 refine AList.nil ?_
 refine AWp.seq ?_
 refine AWp.region ?_
 refine L.M (M.bs Try.underlying22 Y3) ?_
 refine L.Y Y.mv ?_
 refine L.S (S.ap (nn' := true) Try.underlying22 Y3) ?_
 refine L.Y Y.asg ?_
 refine AList.nil ?_
 obtain rfl := Option.some.inj h
 refine AWp.ret ?_
 exact ⟨.inr rfl, [(2, _)], _, ⟨rfl, rfl⟩, IsPart.at [] [0] base0 (H.c .nil) (E.c .nil)⟩

/-! ### spec_feSplit: function 41 -/
mutual
def spec_feSplit.l0 : Nat → List Int → List Int → Int → Int → Int → Int → List Int → Option (List Int × Bool)
 | 0, _, _, _, _, _, _, _ => none
 | k + 1, x1, x2, x3, x10, x140000, x140001, x140002 => if x10 < x3 then ((spec_fePart.f k x1 x2 x10).bind fun t140 => ((spec_feOrder.f k x140000 x140001 x140002 t140).bind fun bt143 => (if bt143.2 = true then (spec_feSplit.l0 k x1 x2 x3 (wrap64 (x10 + 1)) x140000 x140001 x140002) else (some (([] : List Int), false))))) else (if (x2.length : Int) = (x1.length : Int) then (some (x2, true)) else (spec_feSplit.l1 k x1 x2 x3 0 x140000 x140001 x140002))
def spec_feSplit.l1 : Nat → List Int → List Int → Int → Int → Int → Int → List Int → Option (List Int × Bool)
 | 0, _, _, _, _, _, _, _ => none
 | k + 1, x1, x2, x3, x13, x140000, x140001, x140002 => if x13 < x3 then ((spec_l1Own.f x2).bind fun t147 => (if t147.length < 17592186044416 then ((spec_feSplit.f k x140000 x140001 x140002 x1 (t147 ++ [x13]) x3).bind fun bt153 => (if bt153.2 = true then (some (bt153.1, true)) else (spec_feSplit.l1 k x1 x2 x3 (wrap64 (x13 + 1)) x140000 x140001 x140002))) else (none))) else (some (([] : List Int), false))
def spec_feSplit.f : Nat → Int → Int → List Int → List Int → List Int → Int → Option (List Int × Bool)
 | 0, _, _, _, _, _, _ => none
 | k + 1, a0_0, a0_1, l0_2, l1, l2, a3 => spec_feSplit.l0 k l1 l2 a3 0 a0_0 a0_1 l0_2
end
set_option maxRecDepth 100000 in
set_option maxHeartbeats 20000000 in
theorem spec_feSplit.ac : ∀ (k : Nat) (a0_0 : Int) (a0_1 : Int) (l0_2 : List Int) (l1 : List Int) (l2 : List Int) (a3 : Int) (r1 : List Int) (r2 : Bool) (_ : spec_feSplit.f k a0_0 a0_1 l0_2 l1 l2 a3 = some (r1, r2)),
  ACalls Try.prog 41 [.agg [.lit (.int .i64 a0_0), .lit (.int .i64 a0_1), .row 1 l0_2.length false (ints .i64 l0_2)], .row 1 l1.length false (ints .i64 l1), .own 0 l2.length, .lit (.int .i64 a3)] [.sl 3 1 l2.length false (ints .i64 l2)] (fun v H' => v = .tup [.own 1 r1.length, .lit (.bool r2)] ∧ H' = [.gone, .sl 3 1 r1.length false (ints .i64 r1)]) := by
 intro k
 induction k using Nat.strongRecOn with
 | _ k ih =>
 intro a0_0 a0_1 l0_2 l1 l2 a3 r1 r2 h
 cases k with
 | zero => exact absurd h (by simp [spec_feSplit.f])
 | succ k =>
 refine ACalls.ofP [8, 9] Try.func41 rfl (by exact Nat.le_of_ble_eq_true rfl) rfl (by decide) ?_
 simp only [Try.ntmps41, env0, spec_feSplit.f] at h ⊢
 refine AWp.seq ?_
 refine AWp.region ?_
 refine L.M M.bx ?_
 refine L.Y Y.asg ?_
 refine L.Y Y.asg ?_
 refine AList.nil ?_
 refine AWp.seq ?_
 refine AWp.seq ?_
 refine AWp.region ?_
 refine L.Y Y.asg ?_
 refine AList.nil ?_
 refine AWp.block ?_
 refine AWp.loopI (fun kk e H => kk ≤ k ∧ ∃ (x2 : List Int) (x3 : Int) (x10 : Int) (x140000 : Int) (x140001 : Int), e = [(1, .row 1 l1.length false (ints .i64 l1)), (2, .own 0 x2.length), (3, .lit (.int .i64 x3)), (4, .ptr 1 0), (10, .lit (.int .i64 x10))] ∧ H = [.sl 3 1 x2.length false (ints .i64 x2), .bx 28 [.lit (.int .i64 x140000), .lit (.int .i64 x140001), .row 1 l0_2.length false (ints .i64 l0_2)]] ∧ spec_feSplit.l0 kk l1 x2 x3 x10 x140000 x140001 l0_2 = some (r1, r2)) (k := k)
  ⟨_, _, ⟨Nat.le_refl _, _, _, _, _, _, rfl, rfl, h⟩, IsPart.at [] [0, 1] base1 (H.c (H.c .nil)) (E.c (E.c (E.c (E.c (E.c .nil)))))⟩ ?_
 clear h
 rintro k1 e H ⟨hk2, x2, x3, x10, x140000, x140001, rfl, rfl, h⟩
 cases k1 with
 | zero => exact absurd h (by simp [spec_feSplit.l0])
 | succ k1 =>
 simp only [spec_feSplit.l0] at h
 refine AWp.seq ?_
 refine AWp.seq ?_
 refine AWp.region ?_
 refine L.Y Y.mv ?_
 refine L.Y Y.mv ?_
 refine L.Y Y.bin ?_
 refine AList.nil ?_
 refine W.cond (fun hb => ?_) (fun hb => ?_)
 ·
  have hb3 := hb
  try simp only [hS, hE, ne_eq] at hb
  first | rw [if_pos hb3] at h | rw [if_neg (Bool.eq_false_iff.1 hb3)] at h | rw [if_pos hb] at h | rw [if_neg hb] at h | (simp only [hb, hT, reduceIte] at h) | skip
  refine AWp.skip ?_
  refine AWp.seq ?_
  refine AWp.block ?_
  refine AWp.seq ?_
  refine Dt.reg [] [] (.t 0 (.y 1 (.y 2 (.y 3 (.one 4 (.one 5 (.y 6 (.y 7 (.y 8 (.y 9 (.y 10 .done))))))))))) HM ?_
  refine Dt.T rfl wantN (D.ldN Try.underlying28 Y28) ?_
  refine Dt.Y rfl wantN Y.mv ?_
  refine Dt.Y rfl wantN Y.mv ?_
  refine Dt.Y rfl wantN Y.mv ?_
  refine Dt.O (g' := false) rfl wantN ?_
  obtain ⟨t140, hc4, h⟩ := Option.bind_eq_some_iff.1 h
  refine Ox.C true [] Try.func61 (spec_fePart.ac _ _ _ _ _ hc4) .nil ?_
  refine Dt.O (g' := false) rfl wantN ?_
  obtain ⟨⟨t143, t146⟩, hc5, h⟩ := Option.bind_eq_some_iff.1 h
  dsimp only at h
  refine Ox.C true [] Try.func56 (spec_feOrder.ac _ _ _ _ _ _ _ hc5) .nil ?_
  refine Dt.Y rfl wantN Y.mv ?_
  refine Dt.Y rfl wantN Y.ex ?_
  refine Dt.Y rfl wantN Y.ex ?_
  refine Dt.Y rfl wantN Y.asg ?_
  refine Dt.Y rfl wantN Y.asg ?_
  refine Dt.nil ?_
  refine AWp.seq ?_
  refine W.kp [1, 2, 3, 4, 10, 12, 18] ?_
  refine AWp.region ?_
  refine L.Y Y.mv ?_
  refine L.Y Y.nt ?_
  refine AList.nil ?_
  refine W.cond (fun hb => ?_) (fun hb => ?_)
  ·
   have hb6 := hb
   try simp only [hS, hE, ne_eq] at hb
   first | rw [if_pos hb6] at h | rw [if_neg (Bool.eq_false_iff.1 hb6)] at h | rw [if_pos hb] at h | rw [if_neg hb] at h | (simp only [hb, hT, reduceIte] at h) | skip
   refine AWp.seq ?_
   refine AWp.region ?_
   refine L.Y Y.asg ?_
   refine L.Y Y.asg ?_
   refine AList.nil ?_
   simp only [Option.some.injEq, Prod.mk.injEq] at h
   obtain ⟨rfl, rfl⟩ := h
   refine AWp.ret ?_
   exact ⟨.inr rfl, [(8, _), (9, _)], _, ⟨rfl, rfl⟩, IsPart.at [(0, 0), (3, 1)] [4, 5] base1 (H.c (H.c .nil)) (E.c (E.c .nil))⟩
  ·
   have hb6 := hb
   try simp only [hS, hE, ne_eq] at hb
   first | rw [if_pos hb6] at h | rw [if_neg (Bool.eq_false_iff.1 hb6)] at h | rw [if_pos hb] at h | rw [if_neg hb] at h | (simp only [hb, hT, reduceIte] at h) | skip
   refine AWp.skip ?_
   refine AWp.region ?_
   refine L.Y Y.mv ?_
   refine L.Y Y.bin ?_
   refine L.Y Y.asg ?_
   refine AList.nil ?_
   exact ⟨k1, by omega, _, _, ⟨by omega, _, _, _, _, _, rfl, rfl, h⟩, IsPart.at [] [0, 1] base1 (H.c (H.c .nil)) (E.c (E.c (E.c (E.c (E.c .nil)))))⟩
 ·
  have hb3 := hb
  try simp only [hS, hE, ne_eq] at hb
  first | rw [if_pos hb3] at h | rw [if_neg (Bool.eq_false_iff.1 hb3)] at h | rw [if_pos hb] at h | rw [if_neg hb] at h | (simp only [hb, hT, reduceIte] at h) | skip
  refine AWp.exit ?_
  refine AWp.seq ?_
  refine AWp.seq ?_
  refine AWp.region ?_
  refine L.Y Y.mv ?_
  refine L.Y (Y.ln Try.underlying22) ?_
  refine L.Y Y.mv ?_
  refine L.Y (Y.ln Try.underlying22) ?_
  refine L.Y Y.bin ?_
  refine AList.nil ?_
  refine W.cond (fun hb => ?_) (fun hb => ?_)
  ·
   have hb7 := hb
   try simp only [hS, hE, ne_eq] at hb
   first | rw [if_pos hb7] at h | rw [if_neg (Bool.eq_false_iff.1 hb7)] at h | rw [if_pos hb] at h | rw [if_neg hb] at h | (simp only [hb, hT, reduceIte] at h) | skip
   refine AWp.seq ?_
   refine W.kp [1, 2, 3, 4, 10, 18, 36] ?_
   refine AWp.region ?_
   refine L.Y Y.mv ?_
   refine L.Y Y.asg ?_
   refine L.Y Y.asg ?_
   refine AList.nil ?_
   simp only [Option.some.injEq, Prod.mk.injEq] at h
   obtain ⟨rfl, rfl⟩ := h
   refine AWp.ret ?_
   exact ⟨.inr rfl, [(8, _), (9, _)], _, ⟨rfl, rfl⟩, IsPart.at [(0, 0)] [2, 0] base1 (H.c (H.c .nil)) (E.c (E.c .nil))⟩
  ·
   have hb7 := hb
   try simp only [hS, hE, ne_eq] at hb
   first | rw [if_pos hb7] at h | rw [if_neg (Bool.eq_false_iff.1 hb7)] at h | rw [if_pos hb] at h | rw [if_neg hb] at h | (simp only [hb, hT, reduceIte] at h) | skip
   refine AWp.skip ?_
   refine AWp.seq ?_
   refine AWp.seq ?_
   refine W.kp [1, 2, 3, 4, 10, 18, 36] ?_
   refine AWp.region ?_
   refine L.Y Y.asg ?_
   refine AList.nil ?_
   refine AWp.block ?_
   refine AWp.loopI (fun kk e H => kk ≤ k1 ∧ ∃ (x2 : List Int) (x3 : Int) (x13 : Int) (x140000 : Int) (x140001 : Int), e = [(1, .row 1 l1.length false (ints .i64 l1)), (2, .own 0 x2.length), (3, .lit (.int .i64 x3)), (4, .ptr 1 0), (13, .lit (.int .i64 x13))] ∧ H = [.sl 3 1 x2.length false (ints .i64 x2), .bx 28 [.lit (.int .i64 x140000), .lit (.int .i64 x140001), .row 1 l0_2.length false (ints .i64 l0_2)]] ∧ spec_feSplit.l1 kk l1 x2 x3 x13 x140000 x140001 l0_2 = some (r1, r2)) (k := k1)
    ⟨_, _, ⟨Nat.le_refl _, _, _, _, _, _, rfl, rfl, h⟩, IsPart.at [] [0, 1] base1 (H.c (H.c .nil)) (E.c (E.c (E.c (E.c (E.c .nil)))))⟩ ?_
   clear h
   rintro k8 e H ⟨hk9, x2, x3, x13, x140000, x140001, rfl, rfl, h⟩
   cases k8 with
   | zero => exact absurd h (by simp [spec_feSplit.l1])
   | succ k8 =>
   simp only [spec_feSplit.l1] at h
   refine AWp.seq ?_
   refine AWp.seq ?_
   refine AWp.region ?_
   refine L.Y Y.mv ?_
   refine L.Y Y.mv ?_
   refine L.Y Y.bin ?_
   refine AList.nil ?_
   refine W.cond (fun hb => ?_) (fun hb => ?_)
   ·
    have hb10 := hb
    try simp only [hS, hE, ne_eq] at hb
    first | rw [if_pos hb10] at h | rw [if_neg (Bool.eq_false_iff.1 hb10)] at h | rw [if_pos hb] at h | rw [if_neg hb] at h | (simp only [hb, hT, reduceIte] at h) | skip
    refine AWp.skip ?_
    refine AWp.seq ?_
    refine AWp.block ?_
    refine AWp.seq ?_
    obtain ⟨t147, hc11, h⟩ := Option.bind_eq_some_iff.1 h
    repeat (first | (rw [iN] at h; obtain ⟨_, h⟩ := h) | (rw [iP] at h; obtain ⟨_, h⟩ := h) | (simp only [bS] at h))
    obtain ⟨⟨t153, t156⟩, hc12, h⟩ := Option.bind_eq_some_iff.1 h
    dsimp only at h
    apply AWp.joinX
    ·
     refine Dt.reg [] [] (.t 0 (.y 1 (.y 2 (.y 4 (.y 7 (.two 3 (.one 5 (.one 6 (.one 8 (.y 9 (.y 10 (.y 11 (.y 12 (.y 13 .done)))))))) 5 (.one 3 (.one 6 (.one 8 (.y 9 (.y 10 (.y 11 (.y 12 (.y 13 .done)))))))))))))) HM ?_
     refine Dt.T rfl wantN (D.ldN Try.underlying28 Y28) ?_
     refine Dt.Y rfl wantN Y.mv ?_
     refine Dt.Y rfl wantN Y.mv ?_
     refine Dt.Y rfl wantN Y.mv ?_
     refine Dt.Y rfl wantN Y.mv ?_
     refine Dt.B (g1 := false) (g2 := false) rfl rfl wantN wantN ?_ ?_
     ·
      skip
      refine Ox.C true [] Try.func68 (spec_l1Own.ac _ _ hc11) .nil ?_
      refine Dt.O (g' := false) rfl wantN ?_
      refine Ox.M (M.bs Try.underlying22 Y3) ?_
      refine Dt.O (g' := false) rfl wantN ?_
      refine Ox.A (U.ap (nn' := false) Try.underlying22 Y3) ?_
      refine Dt.O (g' := false) rfl wantN ?_
      refine Ox.C true [2] Try.func41 (ih k8 (by omega) _ _ _ _ _ _ _ _ hc12) (H.c .nil) ?_
      refine Dt.Y rfl wantN Y.mv ?_
      refine Dt.Y rfl wantN Y.ex ?_
      refine Dt.Y rfl wantN Y.ex ?_
      refine Dt.Y rfl wantN Y.asg ?_
      refine Dt.Y rfl wantN Y.asg ?_
      refine Dt.nil ?_
      exact ⟨rfl, .inl ⟨rfl, rfl⟩⟩
     ·
      skip
      refine Ox.M (M.bs Try.underlying22 Y3) ?_
      refine Dt.O (g' := false) rfl wantN ?_
      refine Ox.C true [] Try.func68 (spec_l1Own.ac _ _ hc11) .nil ?_
      refine Dt.O (g' := false) rfl wantN ?_
      refine Ox.A (U.ap (nn' := false) Try.underlying22 Y3) ?_
      refine Dt.O (g' := false) rfl wantN ?_
      refine Ox.C true [3] Try.func41 (ih k8 (by omega) _ _ _ _ _ _ _ _ hc12) (H.c .nil) ?_
      refine Dt.Y rfl wantN Y.mv ?_
      refine Dt.Y rfl wantN Y.ex ?_
      refine Dt.Y rfl wantN Y.ex ?_
      refine Dt.Y rfl wantN Y.asg ?_
      refine Dt.Y rfl wantN Y.asg ?_
      refine Dt.nil ?_
      exact ⟨rfl, .inr (IsPart.at [] [0, 1, 3, 2, 4] base1 (H.c (H.c (H.c (H.c (H.c .nil))))) (by repeat' first | exact .nil | refine E.c ?_))⟩
    ·
     skip
     refine AWp.seq ?_
     refine W.kp [1, 2, 3, 4, 13, 14, 15, 40] ?_
     refine AWp.region ?_
     refine L.Y Y.mv ?_
     refine AList.nil ?_
     refine W.cond (fun hb => ?_) (fun hb => ?_)
     ·
      have hb13 := hb
      try simp only [hS, hE, ne_eq] at hb
      first | rw [if_pos hb13] at h | rw [if_neg (Bool.eq_false_iff.1 hb13)] at h | rw [if_pos hb] at h | rw [if_neg hb] at h | (simp only [hb, hT, reduceIte] at h) | skip
      refine AWp.seq ?_
      refine AWp.region ?_
      refine L.Y Y.mv ?_
      refine L.Y Y.asg ?_
      refine L.Y Y.asg ?_
      refine AList.nil ?_
      simp only [Option.some.injEq, Prod.mk.injEq] at h
      obtain ⟨rfl, rfl⟩ := h
      refine AWp.ret ?_
      exact ⟨.inr rfl, [(8, _), (9, _)], _, ⟨rfl, rfl⟩, IsPart.at [(0, 0)] [5, 4] base1 (H.c (H.c .nil)) (E.c (E.c .nil))⟩
     ·
      have hb13 := hb
      try simp only [hS, hE, ne_eq] at hb
      first | rw [if_pos hb13] at h | rw [if_neg (Bool.eq_false_iff.1 hb13)] at h | rw [if_pos hb] at h | rw [if_neg hb] at h | (simp only [hb, hT, reduceIte] at h) | skip
      refine AWp.skip ?_
      refine AWp.region ?_
      refine L.Y Y.mv ?_
      refine L.Y Y.bin ?_
      refine L.Y Y.asg ?_
      refine AList.nil ?_
      exact ⟨k8, by omega, _, _, ⟨by omega, _, _, _, _, _, rfl, rfl, h⟩, IsPart.at [] [0, 1] base1 (H.c (H.c .nil)) (E.c (E.c (E.c (E.c (E.c .nil)))))⟩
   ·
    have hb10 := hb
    try simp only [hS, hE, ne_eq] at hb
    first | rw [if_pos hb10] at h | rw [if_neg (Bool.eq_false_iff.1 hb10)] at h | rw [if_pos hb] at h | rw [if_neg hb] at h | (simp only [hb, hT, reduceIte] at h) | skip
    refine AWp.exit ?_
    refine AWp.seq ?_
    refine AWp.region ?_
    refine L.Y Y.asg ?_
    refine L.Y Y.asg ?_
    refine AList.nil ?_
    simp only [Option.some.injEq, Prod.mk.injEq] at h
    obtain ⟨rfl, rfl⟩ := h
    refine AWp.ret ?_
    exact ⟨.inr rfl, [(8, _), (9, _)], _, ⟨rfl, rfl⟩, IsPart.at [(0, 0), (3, 1)] [2, 3] base1 (H.c (H.c .nil)) (E.c (E.c .nil))⟩

end Go.Proofs.Ytpippjgphndjmaa.PFnMeetsOfBiorders
