-- Written by a program of this session's (wip/myprint2): the functions by the kit's print, the walks by awgen.py. Lean checks it.
import Derived.Test.YtpippjgphndjmaaPFnCoversx0
import Derived.Test.YtpippjgphndjmaaPFnCoversx1
import Derived.Test.YtpippjgphndjmaaPFnCoversx6
namespace Go.Proofs.Ytpippjgphndjmaa.PFnCovers
open Go.RowKit Go.Proofs.YtpippjgphndjmaaW.PrintWords Go.Proofs.YtpippjgphndjmaaW.PrintLast Go.Proofs.YtpippjgphndjmaaW.PrintMore Go.Proofs.YtpippjgphndjmaaM Go.Proofs.YtpippjgphndjmaaA
attribute [local go_sem] max2_int min2_int max_two min_two max_three min_three max_four min_four   -- for this text's walks alone
set_option linter.unusedVariables false
set_option linter.unusedSimpArgs false

/-! ### spec_l1Has: function 76 -/
def spec_l1Has.l0 : Nat → Int → List Int → Int → Int → Option (Bool)
 | 0, _, _, _, _ => none
 | k + 1, x1, x7, x8, x9 => if x9 < x8 then (if 0 ≤ x9 then (if x9 < (x7.length : Int) then (if (rd x7 x9) = x1 then (some true) else (spec_l1Has.l0 k x1 x7 x8 (wrap64 (x9 + 1)))) else (none)) else (none)) else (some false)
def spec_l1Has.f (k : Nat) (l0 : List Int) (a1 : Int) : Option (Bool) := spec_l1Has.l0 k a1 l0 (l0.length : Int) 0
set_option maxRecDepth 100000 in
set_option maxHeartbeats 20000000 in
theorem spec_l1Has.ac (k : Nat) (l0 : List Int) (a1 : Int) (r : Bool) (h : spec_l1Has.f k l0 a1 = some r) :
  ACalls Try.prog 76 [.row 1 l0.length false (ints .i64 l0), .lit (.int .i64 a1)] [] (fun v H' => v = .lit (.bool r) ∧ H' = []) := by
 refine ACalls.ofP [4] Try.func76 rfl (by exact Nat.le_of_ble_eq_true rfl) rfl (by decide) ?_
 simp only [Try.ntmps76, env0, spec_l1Has.f] at h ⊢
 refine AWp.seq ?_
 refine AWp.region ?_
 refine L.Y Y.asg ?_
 refine AList.nil ?_
 refine AWp.seq ?_
 refine AWp.seq ?_
 refine AWp.region ?_
 refine L.Y Y.mv ?_
 refine L.Y (Y.ln Try.underlying22) ?_
 refine L.Y Y.mv ?_
 refine AList.nil ?_
 refine AWp.block ?_
 refine AWp.loopI (fun kk e H => kk ≤ k ∧ ∃ (x1 : Int) (x8 : Int) (x9 : Int), e = [(1, .lit (.int .i64 x1)), (7, .row 1 l0.length false (ints .i64 l0)), (8, .lit (.int .i64 x8)), (9, .lit (.int .i64 x9))] ∧ H = [] ∧ spec_l1Has.l0 kk x1 l0 x8 x9 = some r) (k := k)
  ⟨_, _, ⟨Nat.le_refl _, _, _, _, rfl, rfl, h⟩, IsPart.at [] [] base0 .nil (E.c (E.c (E.c (E.c .nil))))⟩ ?_
 clear h
 rintro k1 e H ⟨hk2, x1, x8, x9, rfl, rfl, h⟩
 cases k1 with
 | zero => exact absurd h (by simp [spec_l1Has.l0])
 | succ k1 =>
 simp only [spec_l1Has.l0] at h
 refine AWp.seq ?_
 refine AWp.region ?_
 refine L.Y Y.bin ?_
 refine AList.nil ?_
 refine AWp.seq ?_
 refine W.cond (fun hb => ?_) (fun hb => ?_)
 ·
  have hb3 := hb
  try simp only [hS, hE, ne_eq] at hb
  first | rw [if_pos hb3] at h | rw [if_neg (Bool.eq_false_iff.1 hb3)] at h | rw [if_pos hb] at h | rw [if_neg hb] at h | (simp only [hb, hT, reduceIte] at h) | skip
  repeat (first | (rw [iN] at h; obtain ⟨_, h⟩ := h) | (rw [iP] at h; obtain ⟨_, h⟩ := h) | (simp only [bS] at h))
  refine AWp.skip ?_
  refine AWp.seq ?_
  refine AWp.block ?_
  refine AWp.seq ?_
  refine AWp.region ?_
  refine L.Y (Y.ixr Try.underlying22 Y3) ?_
  refine L.S (S.ld Try.underlying3) ?_
  refine L.Y Y.asg ?_
  refine AList.nil ?_
  refine AWp.seq ?_
  refine AWp.region ?_
  refine L.Y Y.mv ?_
  refine L.Y Y.mv ?_
  refine L.Y Y.bin ?_
  refine AList.nil ?_
  refine W.cond (fun hb => ?_) (fun hb => ?_)
  ·
   have hb4 := hb
   try simp only [hS, hE, ne_eq] at hb
   first | rw [if_pos hb4] at h | rw [if_neg (Bool.eq_false_iff.1 hb4)] at h | rw [if_pos hb] at h | rw [if_neg hb] at h | (simp only [hb, hT, reduceIte] at h) | skip
   refine AWp.seq ?_
   refine W.kp [1, 6, 7, 8, 9, 10, 15] ?_
   refine AWp.region ?_
   refine L.Y Y.asg ?_
   refine AList.nil ?_
   obtain rfl := Option.some.inj h
   refine AWp.ret ?_
   exact ⟨.inr rfl, [(4, _)], _, ⟨rfl, rfl⟩, IsPart.at [] [] base0 .nil (E.c .nil)⟩
  ·
   have hb4 := hb
   try simp only [hS, hE, ne_eq] at hb
   first | rw [if_pos hb4] at h | rw [if_neg (Bool.eq_false_iff.1 hb4)] at h | rw [if_pos hb] at h | rw [if_neg hb] at h | (simp only [hb, hT, reduceIte] at h) | skip
   refine AWp.skip ?_
   refine W.kp [1, 6, 7, 8, 9, 10, 15] ?_
   refine AWp.region ?_
   refine L.Y Y.bin ?_
   refine L.Y Y.mv ?_
   refine AList.nil ?_
   exact ⟨k1, by omega, _, _, ⟨by omega, _, _, _, rfl, rfl, h⟩, IsPart.at [] [] base0 .nil (E.c (E.c (E.c (E.c .nil))))⟩
 ·
  have hb3 := hb
  try simp only [hS, hE, ne_eq] at hb
  first | rw [if_pos hb3] at h | rw [if_neg (Bool.eq_false_iff.1 hb3)] at h | rw [if_pos hb] at h | rw [if_neg hb] at h | (simp only [hb, hT, reduceIte] at h) | skip
  refine AWp.exit ?_
  refine AWp.seq ?_
  refine AWp.region ?_
  refine L.Y Y.asg ?_
  refine AList.nil ?_
  obtain rfl := Option.some.inj h
  refine AWp.ret ?_
  exact ⟨.inr rfl, [(4, _)], _, ⟨rfl, rfl⟩, IsPart.at [] [] base0 .nil (E.c .nil)⟩

/-! ### spec_feOrder: function 56 -/
mutual
def spec_feOrder.l0 : Nat → List Int → List Int → Int → Int → List Int → Option (List Int × Bool)
 | 0, _, _, _, _, _ => none
 | k + 1, x1, x6, x319000, x319001, x319002 => if (x6.length : Int) < x319000 then (spec_feOrder.l1 k x1 x6 (-1) (wrap64 (x319000 - 1)) x319000 x319001 x319002) else (some (x6, true))
def spec_feOrder.l1 : Nat → List Int → List Int → Int → Int → Int → Int → List Int → Option (List Int × Bool)
 | 0, _, _, _, _, _, _, _ => none
 | k + 1, x1, x6, x7, x8, x319000, x319001, x319002 => if x8 ≥ 0 then ((spec_l1Has.f k x6 x8).bind fun t322 => (if t322 = true then (spec_feOrder.l1 k x1 x6 x7 (wrap64 (x8 - 1)) x319000 x319001 x319002) else (spec_feOrder.l2 k x1 x6 x7 x8 true x1 (x1.length : Int) 0 x319000 x319001 x319002))) else (if x7 < 0 then (some (([] : List Int), false)) else (if x6.length < 17592186044416 then (spec_feOrder.l0 k x1 (x6 ++ [x7]) x319000 x319001 x319002) else (none)))
def spec_feOrder.l2 : Nat → List Int → List Int → Int → Int → Bool → List Int → Int → Int → Int → Int → List Int → Option (List Int × Bool)
 | 0, _, _, _, _, _, _, _, _, _, _, _ => none
 | k + 1, x1, x6, x7, x8, x9, x28, x29, x30, x319000, x319001, x319002 => if x30 < x29 then (if 0 ≤ x30 then (if x30 < (x28.length : Int) then (if x319001 = 0 then (none) else ((spec_l1Has.f k x6 (wrap64 (Int.tdiv (rd x28 x30) x319001))).bind fun t324 => (if t324 = true then (spec_feOrder.l2 k x1 x6 x7 x8 x9 x28 x29 (wrap64 (x30 + 1)) x319000 x319001 x319002) else (if 0 ≤ x8 then (if x8 < (x319002.length : Int) then ((spec_orHas.f (rd x319002 x8) (Int.tmod (rd x28 x30) x319001)).bind fun t326 => (if t326 = true then (spec_feOrder.l2 k x1 x6 x7 x8 false x28 x29 (wrap64 (x30 + 1)) x319000 x319001 x319002) else (spec_feOrder.l2 k x1 x6 x7 x8 x9 x28 x29 (wrap64 (x30 + 1)) x319000 x319001 x319002))) else (none)) else (none))))) else (none)) else (none)) else (if x9 = true then (spec_feOrder.l1 k x1 x6 x8 (wrap64 (x8 - 1)) x319000 x319001 x319002) else (spec_feOrder.l1 k x1 x6 x7 (wrap64 (x8 - 1)) x319000 x319001 x319002))
end
def spec_feOrder.f (k : Nat) (a0_0 : Int) (a0_1 : Int) (l0_2 : List Int) (l1 : List Int) : Option (List Int × Bool) := spec_feOrder.l0 k l1 ([] : List Int) a0_0 a0_1 l0_2
set_option maxRecDepth 100000 in
set_option maxHeartbeats 20000000 in
theorem spec_feOrder.ac (k : Nat) (a0_0 : Int) (a0_1 : Int) (l0_2 : List Int) (l1 : List Int) (r1 : List Int) (r2 : Bool) (h : spec_feOrder.f k a0_0 a0_1 l0_2 l1 = some (r1, r2)) :
  ACalls Try.prog 56 [.agg [.lit (.int .i64 a0_0), .lit (.int .i64 a0_1), .row 1 l0_2.length false (ints .i64 l0_2)], .row 1 l1.length false (ints .i64 l1)] [] (fun v H' => v = .tup [.own 0 r1.length, .lit (.bool r2)] ∧ H' = [.sl 3 1 r1.length false (ints .i64 r1)]) := by
 refine ACalls.ofP [4, 5] Try.func56 rfl (by exact Nat.le_of_ble_eq_true rfl) rfl (by decide) ?_
 simp only [Try.ntmps56, env0, spec_feOrder.f] at h ⊢
 refine AWp.seq ?_
 refine AWp.region ?_
 refine L.M M.bx ?_
 refine L.Y Y.asg ?_
 refine L.Y Y.asg ?_
 refine AList.nil ?_
 refine AWp.seq ?_
 refine AWp.region ?_
 refine L.Y Y.asg ?_
 refine AList.nil ?_
 refine AWp.seq ?_
 refine AWp.block ?_
 refine AWp.loopI (fun kk e H => kk ≤ k ∧ ∃ (x6 : List Int) (x319000 : Int) (x319001 : Int), e = [(1, .row 1 l1.length false (ints .i64 l1)), (2, .ptr 0 0), (6, .own 1 x6.length)] ∧ H = [.bx 28 [.lit (.int .i64 x319000), .lit (.int .i64 x319001), .row 1 l0_2.length false (ints .i64 l0_2)], .sl 3 1 x6.length false (ints .i64 x6)] ∧ spec_feOrder.l0 kk l1 x6 x319000 x319001 l0_2 = some (r1, r2)) (k := k)
  ⟨_, _, ⟨Nat.le_refl _, _, _, _, rfl, rfl, h⟩, IsPart.at [(3, 1)] [0, 1] base0 (H.c (H.c .nil)) (E.c (E.c (E.c .nil)))⟩ ?_
 clear h
 rintro k1 e H ⟨hk2, x6, x319000, x319001, rfl, rfl, h⟩
 cases k1 with
 | zero => exact absurd h (by simp [spec_feOrder.l0])
 | succ k1 =>
 simp only [spec_feOrder.l0] at h
 refine AWp.seq ?_
 refine AWp.seq ?_
 refine AWp.region ?_
 refine L.Y Y.mv ?_
 refine L.Y (Y.ln Try.underlying22) ?_
 refine L.Y (Y.fa (off := 0) Try.underlying28 Y3) ?_
 refine L.S (S.ld Try.underlying3) ?_
 refine L.Y Y.bin ?_
 refine AList.nil ?_
 refine W.cond (fun hb => ?_) (fun hb => ?_)
 ·
  have hb3 := hb
  try simp only [hS, hE, ne_eq] at hb
  first | rw [if_pos hb3] at h | rw [if_neg (Bool.eq_false_iff.1 hb3)] at h | rw [if_pos hb] at h | rw [if_neg hb] at h | (simp only [hb, hT, reduceIte] at h) | skip
  refine AWp.skip ?_
  refine AWp.block ?_
  refine AWp.seq ?_
  refine W.kp [1, 2, 6, 17] ?_
  refine AWp.region ?_
  refine L.Y Y.asg ?_
  refine AList.nil ?_
  refine AWp.seq ?_
  refine AWp.seq ?_
  refine AWp.region ?_
  refine L.Y (Y.fa (off := 0) Try.underlying28 Y3) ?_
  refine L.S (S.ld Try.underlying3) ?_
  refine L.Y Y.bin ?_
  refine L.Y Y.asg ?_
  refine AList.nil ?_
  refine AWp.block ?_
  refine AWp.loopI (fun kk e H => kk ≤ k1 ∧ ∃ (x6 : List Int) (x7 : Int) (x8 : Int) (x319000 : Int) (x319001 : Int), e = [(1, .row 1 l1.length false (ints .i64 l1)), (2, .ptr 0 0), (6, .own 1 x6.length), (7, .lit (.int .i64 x7)), (8, .lit (.int .i64 x8))] ∧ H = [.bx 28 [.lit (.int .i64 x319000), .lit (.int .i64 x319001), .row 1 l0_2.length false (ints .i64 l0_2)], .sl 3 1 x6.length false (ints .i64 x6)] ∧ spec_feOrder.l1 kk l1 x6 x7 x8 x319000 x319001 l0_2 = some (r1, r2)) (k := k1)
   ⟨_, _, ⟨Nat.le_refl _, _, _, _, _, _, rfl, rfl, h⟩, IsPart.at [] [0, 1] base0 (H.c (H.c .nil)) (E.c (E.c (E.c (E.c (E.c .nil)))))⟩ ?_
  clear h
  rintro k4 e H ⟨hk5, x6, x7, x8, x319000, x319001, rfl, rfl, h⟩
  cases k4 with
  | zero => exact absurd h (by simp [spec_feOrder.l1])
  | succ k4 =>
  simp only [spec_feOrder.l1] at h
  refine AWp.seq ?_
  refine AWp.seq ?_
  refine AWp.region ?_
  refine L.Y Y.mv ?_
  refine L.Y Y.bin ?_
  refine AList.nil ?_
  refine W.cond (fun hb => ?_) (fun hb => ?_)
  ·
   have hb6 := hb
   try simp only [hS, hE, ne_eq] at hb
   first | rw [if_pos hb6] at h | rw [if_neg (Bool.eq_false_iff.1 hb6)] at h | rw [if_pos hb] at h | rw [if_neg hb] at h | (simp only [hb, hT, reduceIte] at h) | skip
   refine AWp.skip ?_
   refine AWp.seq ?_
   refine AWp.block ?_
   refine AWp.seq ?_
   refine AWp.seq ?_
   refine AWp.region ?_
   refine L.Y Y.mv ?_
   refine L.Y Y.mv ?_
   obtain ⟨t322, hc7, h⟩ := Option.bind_eq_some_iff.1 h
   refine L.C (C.callE (l := true) [] Try.func76 (spec_l1Has.ac _ _ _ _ hc7) .nil ?_)
   refine AList.nil ?_
   refine W.cond (fun hb => ?_) (fun hb => ?_)
   ·
    have hb8 := hb
    try simp only [hS, hE, ne_eq] at hb
    first | rw [if_pos hb8] at h | rw [if_neg (Bool.eq_false_iff.1 hb8)] at h | rw [if_pos hb] at h | rw [if_neg hb] at h | (simp only [hb, hT, reduceIte] at h) | skip
    refine AWp.exit ?_
    refine AWp.region ?_
    refine L.Y Y.mv ?_
    refine L.Y Y.bin ?_
    refine L.Y Y.asg ?_
    refine AList.nil ?_
    exact ⟨k4, by omega, _, _, ⟨by omega, _, _, _, _, _, rfl, rfl, h⟩, IsPart.at [] [0, 1] base0 (H.c (H.c .nil)) (E.c (E.c (E.c (E.c (E.c .nil)))))⟩
   ·
    have hb8 := hb
    try simp only [hS, hE, ne_eq] at hb
    first | rw [if_pos hb8] at h | rw [if_neg (Bool.eq_false_iff.1 hb8)] at h | rw [if_pos hb] at h | rw [if_neg hb] at h | (simp only [hb, hT, reduceIte] at h) | skip
    refine AWp.skip ?_
    refine AWp.seq ?_
    refine AWp.region ?_
    refine L.Y Y.asg ?_
    refine AList.nil ?_
    refine AWp.seq ?_
    refine AWp.seq ?_
    refine AWp.region ?_
    refine L.Y Y.mv ?_
    refine L.Y (Y.ln Try.underlying22) ?_
    refine L.Y Y.mv ?_
    refine AList.nil ?_
    refine AWp.block ?_
    refine AWp.loopI (fun kk e H => kk ≤ k4 ∧ ∃ (x6 : List Int) (x7 : Int) (x8 : Int) (x9 : Bool) (x29 : Int) (x30 : Int) (x319000 : Int) (x319001 : Int), e = [(1, .row 1 l1.length false (ints .i64 l1)), (2, .ptr 0 0), (6, .own 1 x6.length), (7, .lit (.int .i64 x7)), (8, .lit (.int .i64 x8)), (9, .lit (.bool x9)), (28, .row 1 l1.length false (ints .i64 l1)), (29, .lit (.int .i64 x29)), (30, .lit (.int .i64 x30))] ∧ H = [.bx 28 [.lit (.int .i64 x319000), .lit (.int .i64 x319001), .row 1 l0_2.length false (ints .i64 l0_2)], .sl 3 1 x6.length false (ints .i64 x6)] ∧ spec_feOrder.l2 kk l1 x6 x7 x8 x9 l1 x29 x30 x319000 x319001 l0_2 = some (r1, r2)) (k := k4)
     ⟨_, _, ⟨Nat.le_refl _, _, _, _, _, _, _, _, _, rfl, rfl, h⟩, IsPart.at [] [0, 1] base0 (H.c (H.c .nil)) (E.c (E.c (E.c (E.c (E.c (E.c (E.c (E.c (E.c .nil)))))))))⟩ ?_
    clear h
    rintro k9 e H ⟨hk10, x6, x7, x8, x9, x29, x30, x319000, x319001, rfl, rfl, h⟩
    cases k9 with
    | zero => exact absurd h (by simp [spec_feOrder.l2])
    | succ k9 =>
    simp only [spec_feOrder.l2] at h
    refine AWp.seq ?_
    refine AWp.region ?_
    refine L.Y Y.bin ?_
    refine AList.nil ?_
    refine AWp.seq ?_
    refine W.cond (fun hb => ?_) (fun hb => ?_)
    ·
     have hb11 := hb
     try simp only [hS, hE, ne_eq] at hb
     first | rw [if_pos hb11] at h | rw [if_neg (Bool.eq_false_iff.1 hb11)] at h | rw [if_pos hb] at h | rw [if_neg hb] at h | (simp only [hb, hT, reduceIte] at h) | skip
     repeat (first | (rw [iN] at h; obtain ⟨_, h⟩ := h) | (rw [iP] at h; obtain ⟨_, h⟩ := h) | (simp only [bS] at h))
     refine AWp.skip ?_
     refine AWp.seq ?_
     refine AWp.block ?_
     refine AWp.seq ?_
     refine AWp.region ?_
     refine L.Y (Y.ixr Try.underlying22 Y3) ?_
     refine L.S (S.ld Try.underlying3) ?_
     refine L.Y Y.asg ?_
     refine AList.nil ?_
     refine AWp.seq ?_
     refine AWp.region ?_
     refine L.Y Y.mv ?_
     refine L.Y (Y.fa (off := 1) Try.underlying28 Y3) ?_
     refine L.S (S.ld Try.underlying3) ?_
     refine L.Y Y.bin ?_
     refine L.Y Y.asg ?_
     refine AList.nil ?_
     refine AWp.seq ?_
     refine W.kp [1, 2, 6, 7, 8, 9, 11, 12, 28, 29, 30, 31] ?_
     refine Dt.reg [] [] (.y 0 (.y 1 (.one 2 (.y 3 (.y 4 (.y 5 (.t 6 (.y 7 (.y 8 (.t 9 (.y 10 (.y 11 (.t 12 (.y 13 (.one 14 (.y 15 .done)))))))))))))))) HM ?_
     refine Dt.Y rfl wantN Y.mv ?_
     refine Dt.Y rfl wantN Y.mv ?_
     refine Dt.O (g' := false) rfl wantN ?_
     obtain ⟨t324, hc12, h⟩ := Option.bind_eq_some_iff.1 h
     refine Ox.C true [] Try.func76 (spec_l1Has.ac _ _ _ _ hc12) .nil ?_
     refine Dt.Y rfl wantN Y.nt ?_
     refine Dt.Y rfl wantN Y.mv ?_
     refine Dt.F 42 (fun hb => ?_) (fun hb => ?_)
     ·
      have hb13 := hb
      try simp only [hS, hE, ne_eq] at hb
      first | rw [if_pos hb13] at h | rw [if_neg (Bool.eq_false_iff.1 hb13)] at h | rw [if_pos hb] at h | rw [if_neg hb] at h | (simp only [hb, hT, reduceIte] at h) | skip
      repeat (first | (rw [iN] at h; obtain ⟨_, h⟩ := h) | (rw [iP] at h; obtain ⟨_, h⟩ := h) | (simp only [bS] at h))
      refine Dt.Y rfl (wantY hb13) (Y.fa (off := 2) Try.underlying28 Y22) ?_
      refine Dt.T rfl (wantY hb13) (D.ld Try.underlying22) ?_
      refine Dt.Y rfl (wantY hb13) Y.mv ?_
      refine Dt.Y rfl (wantY hb13) (Y.ixr Try.underlying22 Y3) ?_
      refine Dt.T rfl (wantY hb13) (D.ld Try.underlying3) ?_
      refine Dt.Y rfl (wantY hb13) Y.mv ?_
      refine Dt.Y rfl (wantY hb13) (Y.fa (off := 1) Try.underlying28 Y3) ?_
      refine Dt.T rfl (wantY hb13) (D.ld Try.underlying3) ?_
      refine Dt.Y rfl (wantY hb13) Y.bin ?_
      refine Dt.O (g' := false) rfl (wantY hb13) ?_
      obtain ⟨t326, hc14, h⟩ := Option.bind_eq_some_iff.1 h
      refine Ox.C true [] Try.func69 (spec_orHas.ac _ _ _ hc14) .nil ?_
      refine Dt.Y rfl wantN (Y.pk (c := true) hb13) ?_
      refine Dt.nil ?_
      refine W.cond (fun hb => ?_) (fun hb => ?_)
      ·
       have hb15 := hb
       try simp only [hS, hE, ne_eq] at hb
       first | rw [if_pos hb15] at h | rw [if_neg (Bool.eq_false_iff.1 hb15)] at h | rw [if_pos hb] at h | rw [if_neg hb] at h | (simp only [hb, hT, reduceIte] at h) | skip
       refine W.kp [1, 2, 6, 7, 8, 9, 11, 12, 28, 29, 30, 31, 53] ?_
       refine AWp.region ?_
       refine L.Y Y.asg ?_
       refine AList.nil ?_
       refine AWp.region ?_
       refine L.Y Y.bin ?_
       refine L.Y Y.mv ?_
       refine AList.nil ?_
       exact ⟨k9, by omega, _, _, ⟨by omega, _, _, _, _, _, _, _, _, rfl, rfl, h⟩, IsPart.at [] [0, 1] base0 (H.c (H.c .nil)) (E.c (E.c (E.c (E.c (E.c (E.c (E.c (E.c (E.c .nil)))))))))⟩
      ·
       have hb15 := hb
       try simp only [hS, hE, ne_eq] at hb
       first | rw [if_pos hb15] at h | rw [if_neg (Bool.eq_false_iff.1 hb15)] at h | rw [if_pos hb] at h | rw [if_neg hb] at h | (simp only [hb, hT, reduceIte] at h) | skip
       refine AWp.skip ?_
       refine W.kp [1, 2, 6, 7, 8, 9, 11, 12, 28, 29, 30, 31, 53] ?_
       refine AWp.region ?_
       refine L.Y Y.bin ?_
       refine L.Y Y.mv ?_
       refine AList.nil ?_
       exact ⟨k9, by omega, _, _, ⟨by omega, _, _, _, _, _, _, _, _, rfl, rfl, h⟩, IsPart.at [] [0, 1] base0 (H.c (H.c .nil)) (E.c (E.c (E.c (E.c (E.c (E.c (E.c (E.c (E.c .nil)))))))))⟩
     ·
      have hb13 := hb
      try simp only [hS, hE, ne_eq] at hb
      first | rw [if_pos hb13] at h | rw [if_neg (Bool.eq_false_iff.1 hb13)] at h | rw [if_pos hb] at h | rw [if_neg hb] at h | (simp only [hb, hT, reduceIte] at h) | skip
      refine Dt.No rfl (wantZ hb13) ?_
      refine Dt.Nt rfl (wantZ hb13) ?_
      refine Dt.No rfl (wantZ hb13) ?_
      refine Dt.No rfl (wantZ hb13) ?_
      refine Dt.Nt rfl (wantZ hb13) ?_
      refine Dt.No rfl (wantZ hb13) ?_
      refine Dt.No rfl (wantZ hb13) ?_
      refine Dt.Nt rfl (wantZ hb13) ?_
      refine Dt.No rfl (wantZ hb13) ?_
      refine Dt.Po rfl (wantZ hb13) ?_
      refine Dt.Y rfl wantN (Y.pk (c := false) hb13) ?_
      refine Dt.nil ?_
      refine W.cond (fun hb => ?_) (fun hb => ?_)
      ·
       exact DD hb
      have hb16 := hb
      refine AWp.skip ?_
      refine W.kp [1, 2, 6, 7, 8, 9, 11, 12, 28, 29, 30, 31, 53] ?_
      refine AWp.region ?_
      refine L.Y Y.bin ?_
      refine L.Y Y.mv ?_
      refine AList.nil ?_
      exact ⟨k9, by omega, _, _, ⟨by omega, _, _, _, _, _, _, _, _, rfl, rfl, h⟩, IsPart.at [] [0, 1] base0 (H.c (H.c .nil)) (E.c (E.c (E.c (E.c (E.c (E.c (E.c (E.c (E.c .nil)))))))))⟩
    ·
     have hb11 := hb
     try simp only [hS, hE, ne_eq] at hb
     first | rw [if_pos hb11] at h | rw [if_neg (Bool.eq_false_iff.1 hb11)] at h | rw [if_pos hb] at h | rw [if_neg hb] at h | (simp only [hb, hT, reduceIte] at h) | skip
     refine AWp.exit ?_
     refine AWp.seq ?_
     refine AWp.region ?_
     refine L.Y Y.mv ?_
     refine AList.nil ?_
     refine W.cond (fun hb => ?_) (fun hb => ?_)
     ·
      have hb17 := hb
      try simp only [hS, hE, ne_eq] at hb
      first | rw [if_pos hb17] at h | rw [if_neg (Bool.eq_false_iff.1 hb17)] at h | rw [if_pos hb] at h | rw [if_neg hb] at h | (simp only [hb, hT, reduceIte] at h) | skip
      refine AWp.region ?_
      refine L.Y Y.mv ?_
      refine L.Y Y.asg ?_
      refine AList.nil ?_
      refine AWp.region ?_
      refine L.Y Y.mv ?_
      refine L.Y Y.bin ?_
      refine L.Y Y.asg ?_
      refine AList.nil ?_
      exact ⟨k9, by omega, _, _, ⟨by omega, _, _, _, _, _, rfl, rfl, h⟩, IsPart.at [] [0, 1] base0 (H.c (H.c .nil)) (E.c (E.c (E.c (E.c (E.c .nil)))))⟩
     ·
      have hb17 := hb
      try simp only [hS, hE, ne_eq] at hb
      first | rw [if_pos hb17] at h | rw [if_neg (Bool.eq_false_iff.1 hb17)] at h | rw [if_pos hb] at h | rw [if_neg hb] at h | (simp only [hb, hT, reduceIte] at h) | skip
      refine AWp.skip ?_
      refine AWp.region ?_
      refine L.Y Y.mv ?_
      refine L.Y Y.bin ?_
      refine L.Y Y.asg ?_
      refine AList.nil ?_
      exact ⟨k9, by omega, _, _, ⟨by omega, _, _, _, _, _, rfl, rfl, h⟩, IsPart.at [] [0, 1] base0 (H.c (H.c .nil)) (E.c (E.c (E.c (E.c (E.c .nil)))))⟩
  ·
   have hb6 := hb
   try simp only [hS, hE, ne_eq] at hb
   first | rw [if_pos hb6] at h | rw [if_neg (Bool.eq_false_iff.1 hb6)] at h | rw [if_pos hb] at h | rw [if_neg hb] at h | (simp only [hb, hT, reduceIte] at h) | skip
   refine AWp.exit ?_
   refine AWp.seq ?_
   refine AWp.seq ?_
   refine AWp.region ?_
   refine L.Y Y.mv ?_
   refine L.Y Y.bin ?_
   refine AList.nil ?_
   refine W.cond (fun hb => ?_) (fun hb => ?_)
   ·
    have hb18 := hb
    try simp only [hS, hE, ne_eq] at hb
    first | rw [if_pos hb18] at h | rw [if_neg (Bool.eq_false_iff.1 hb18)] at h | rw [if_pos hb] at h | rw [if_neg hb] at h | (simp only [hb, hT, reduceIte] at h) | skip
    refine AWp.seq ?_
    refine AWp.region ?_
    refine L.Y Y.asg ?_
    refine L.Y Y.asg ?_
    refine AList.nil ?_
    simp only [Option.some.injEq, Prod.mk.injEq] at h
    obtain ⟨rfl, rfl⟩ := h
    refine AWp.ret ?_
    exact ⟨.inr rfl, [(4, _), (5, _)], _, ⟨rfl, rfl⟩, IsPart.at [(3, 1)] [2] base0 (H.c .nil) (E.c (E.c .nil))⟩
   ·
    have hb18 := hb
    try simp only [hS, hE, ne_eq] at hb
    first | rw [if_pos hb18] at h | rw [if_neg (Bool.eq_false_iff.1 hb18)] at h | rw [if_pos hb] at h | rw [if_neg hb] at h | (simp only [hb, hT, reduceIte] at h) | skip
    repeat (first | (rw [iN] at h; obtain ⟨_, h⟩ := h) | (rw [iP] at h; obtain ⟨_, h⟩ := h) | (simp only [bS] at h))
    refine AWp.skip ?_
    refine AWp.region ?_
    refine L.Y Y.mv ?_
    refine L.Y Y.mv ?_
    refine L.M (M.bs Try.underlying22 Y3) ?_
    refine L.S (S.ap (nn' := false) Try.underlying22 Y3) ?_
    refine L.Y Y.asg ?_
    refine AList.nil ?_
    exact ⟨k4, by omega, _, _, ⟨by omega, _, _, _, rfl, rfl, h⟩, IsPart.at [] [0, 1] base0 (H.c (H.c .nil)) (E.c (E.c (E.c .nil)))⟩
 ·
  have hb3 := hb
  try simp only [hS, hE, ne_eq] at hb
  first | rw [if_pos hb3] at h | rw [if_neg (Bool.eq_false_iff.1 hb3)] at h | rw [if_pos hb] at h | rw [if_neg hb] at h | (simp only [hb, hT, reduceIte] at h) | skip
  refine AWp.exit ?_
  refine AWp.seq ?_
  refine W.kp [1, 2, 6, 17] ?_
  refine AWp.region ?_
  refine L.Y Y.mv ?_
  refine L.Y Y.asg ?_
  refine L.Y Y.asg ?_
  refine AList.nil ?_
  simp only [Option.some.injEq, Prod.mk.injEq] at h
  obtain ⟨rfl, rfl⟩ := h
  refine AWp.ret ?_
  exact ⟨.inr rfl, [(4, _), (5, _)], _, ⟨rfl, rfl⟩, IsPart.at [] [1] base0 (H.c .nil) (E.c (E.c .nil))⟩

/-! ### spec_FreeOrder: function 24 -/
def spec_FreeOrder.f (k : Nat) (a0_0 : Int) (a0_1 : Int) (l0_2 : List Int) (l1 : List Int) : Option (List Int × Bool) := (spec_feCells.f k a0_0 a0_1 l0_2 l1).bind fun t328 => (if t328 = true then ((spec_feOrder.f k a0_0 a0_1 l0_2 l1).bind fun bt329 => (some (bt329.1, bt329.2))) else (some (([] : List Int), false)))
set_option maxRecDepth 100000 in
set_option maxHeartbeats 20000000 in
theorem spec_FreeOrder.ac (k : Nat) (a0_0 : Int) (a0_1 : Int) (l0_2 : List Int) (l1 : List Int) (r1 : List Int) (r2 : Bool) (h : spec_FreeOrder.f k a0_0 a0_1 l0_2 l1 = some (r1, r2)) :
  ACalls Try.prog 24 [.agg [.lit (.int .i64 a0_0), .lit (.int .i64 a0_1), .row 1 l0_2.length false (ints .i64 l0_2)], .row 1 l1.length false (ints .i64 l1)] [] (fun v H' => v = .tup [.own 0 r1.length, .lit (.bool r2)] ∧ H' = [.sl 3 1 r1.length false (ints .i64 r1)]) := by
 refine ACalls.ofP [4, 5] Try.func24 rfl (by exact Nat.le_of_ble_eq_true rfl) rfl (by decide) ?_
 simp only [Try.ntmps24, env0, spec_FreeOrder.f] at h ⊢
 refine AWp.seq ?_
 refine AWp.region ?_
 refine L.M M.bx ?_
 refine L.Y Y.asg ?_
 refine L.Y Y.asg ?_
 refine AList.nil ?_
 refine AWp.seq ?_
 refine AWp.seq ?_
 refine AWp.region ?_
 refine L.S (S.ldN Try.underlying28 Y28) ?_
 refine L.Y Y.mv ?_
 obtain ⟨t328, hc1, h⟩ := Option.bind_eq_some_iff.1 h
 refine L.C (C.callE (l := true) [] Try.func55 (spec_feCells.ac _ _ _ _ _ _ hc1) .nil ?_)
 refine L.Y Y.nt ?_
 refine AList.nil ?_
 refine W.cond (fun hb => ?_) (fun hb => ?_)
 ·
  have hb2 := hb
  try simp only [hS, hE, ne_eq] at hb
  first | rw [if_pos hb2] at h | rw [if_neg (Bool.eq_false_iff.1 hb2)] at h | rw [if_pos hb] at h | rw [if_neg hb] at h | (simp only [hb, hT, reduceIte] at h) | skip
  refine AWp.seq ?_
  refine AWp.region ?_
  refine L.Y Y.asg ?_
  refine L.Y Y.asg ?_
  refine AList.nil ?_
  simp only [Option.some.injEq, Prod.mk.injEq] at h
  obtain ⟨rfl, rfl⟩ := h
  refine AWp.ret ?_
  exact ⟨.inr rfl, [(4, _), (5, _)], _, ⟨rfl, rfl⟩, IsPart.at [(3, 1)] [1] base0 (H.c .nil) (E.c (E.c .nil))⟩
 ·
  have hb2 := hb
  try simp only [hS, hE, ne_eq] at hb
  first | rw [if_pos hb2] at h | rw [if_neg (Bool.eq_false_iff.1 hb2)] at h | rw [if_pos hb] at h | rw [if_neg hb] at h | (simp only [hb, hT, reduceIte] at h) | skip
  refine AWp.skip ?_
  refine AWp.seq ?_
  refine AWp.region ?_
  refine L.S (S.ldN Try.underlying28 Y28) ?_
  refine L.Y Y.mv ?_
  obtain ⟨⟨t329, t332⟩, hc3, h⟩ := Option.bind_eq_some_iff.1 h
  dsimp only at h
  refine L.C (C.callE (l := true) [] Try.func56 (spec_feOrder.ac _ _ _ _ _ _ _ hc3) .nil ?_)
  refine L.Y Y.ex ?_
  refine L.Y Y.ex ?_
  refine L.Y Y.asg ?_
  refine L.Y Y.asg ?_
  refine AList.nil ?_
  simp only [Option.some.injEq, Prod.mk.injEq] at h
  obtain ⟨rfl, rfl⟩ := h
  refine AWp.ret ?_
  exact ⟨.inr rfl, [(4, _), (5, _)], _, ⟨rfl, rfl⟩, IsPart.at [] [1] base0 (H.c .nil) (E.c (E.c .nil))⟩

/-! ### spec_feCover: function 51 -/
def spec_feCover.l0 : Nat → Int → List Int → Int → Int → Int → Int → List Int → Int → Int → List Int → Option (Int × Int × List Int)
 | 0, _, _, _, _, _, _, _, _, _, _ => none
 | k + 1, x6, x17, x18, x19, x334000, x334001, x334002, x339000, x339001, x339002 => if x19 < x18 then (if 0 ≤ x19 then (if x19 < (x17.length : Int) then (if 0 ≤ (rd x17 x19) then (if (rd x17 x19) < (x334002.length : Int) then (if (rd x17 x19) < (x339002.length : Int) then (spec_feCover.l0 k (Go.bits .or .i64 x6 (rd x334002 (rd x17 x19))) x17 x18 (wrap64 (x19 + 1)) x334000 x334001 x334002 x339000 x339001 (x339002.set ((rd x17 x19) : Int).toNat (Go.bits .or .i64 x6 (rd x334002 (rd x17 x19))))) else (none)) else (none)) else (none)) else (none)) else (none)) else (some (x339000, x339001, x339002))
def spec_feCover.f (k : Nat) (a0_0 : Int) (a0_1 : Int) (l0_2 : List Int) (l1 : List Int) : Option (Int × Int × List Int) := if 0 ≤ a0_0 then (if (a0_0 : Int).toNat ≤ 35184372088832 then (spec_feCover.l0 k 0 l1 (l1.length : Int) 0 a0_0 a0_1 l0_2 a0_0 a0_1 (List.replicate (a0_0 : Int).toNat 0)) else (none)) else (none)
set_option maxRecDepth 100000 in
set_option maxHeartbeats 20000000 in
theorem spec_feCover.ac (k : Nat) (a0_0 : Int) (a0_1 : Int) (l0_2 : List Int) (l1 : List Int) (r1 : Int) (r2 : Int) (r3 : List Int) (h : spec_feCover.f k a0_0 a0_1 l0_2 l1 = some (r1, r2, r3)) :
  ACalls Try.prog 51 [.agg [.lit (.int .i64 a0_0), .lit (.int .i64 a0_1), .row 1 l0_2.length false (ints .i64 l0_2)], .row 1 l1.length false (ints .i64 l1)] [] (fun v H' => v = .agg [.lit (.int .i64 r1), .lit (.int .i64 r2), .own 0 r3.length] ∧ H' = [.sl 3 1 r3.length false (ints .i64 r3)]) := by
 refine ACalls.ofV Try.func51 rfl (by exact Nat.le_of_ble_eq_true rfl) ?_
 simp only [Try.ntmps51, env0, spec_feCover.f] at h ⊢
 repeat (first | (rw [iN] at h; obtain ⟨_, h⟩ := h) | (rw [iP] at h; obtain ⟨_, h⟩ := h) | (simp only [bS] at h))
 refine AWp.seq ?_
 refine AWp.region ?_
 refine L.M M.bx ?_
 refine L.M (M.al Y28) ?_
 refine AList.nil ?_
 refine AWp.seq ?_
 apply AWp.joinX
 ·
  refine Dt.reg [] [9] (.y 0 (.t 1 (.y 2 (.t 3 (.y 4 (.t 5 (.two 6 (.y 7 (.one 8 (.last 9 .done))) 8 (.one 6 (.y 7 (.last 9 .done)))))))))) HM ?_
  refine Dt.Y rfl wantN (Y.fa (off := 0) Try.underlying28 Y3) ?_
  refine Dt.T rfl wantN (D.ld Try.underlying3) ?_
  refine Dt.Y rfl wantN (Y.fa (off := 1) Try.underlying28 Y3) ?_
  refine Dt.T rfl wantN (D.ld Try.underlying3) ?_
  refine Dt.Y rfl wantN (Y.fa (off := 0) Try.underlying28 Y3) ?_
  refine Dt.T rfl wantN (D.ld Try.underlying3) ?_
  refine Dt.B (g1 := false) (g2 := false) rfl rfl wantN wantN ?_ ?_
  ·
   skip
   refine Ox.M (M.mk Try.underlying22 Y3) ?_
   refine Dt.Y rfl wantN (Y.bd Try.underlying28 Y28 P28) ?_
   refine Dt.O (g' := false) rfl wantN ?_
   refine Ox.M (M.al Y28) ?_
   refine Dt.L rfl wantN ?_
   refine Op.S (S.stb Y28) ?_
   refine Du.nil ?_
   exact ⟨rfl, .inl ⟨rfl, rfl⟩⟩
  ·
   skip
   refine Ox.M (M.al Y28) ?_
   refine Dt.O (g' := false) rfl wantN ?_
   refine Ox.M (M.mk Try.underlying22 Y3) ?_
   refine Dt.Y rfl wantN (Y.bd Try.underlying28 Y28 P28) ?_
   refine Dt.L rfl wantN ?_
   refine Op.S (S.stb Y28) ?_
   refine Du.nil ?_
   exact ⟨rfl, .inr (IsPart.at [] [0, 1, 3, 2] base0 (H.c (H.c (H.c (H.c .nil)))) (by repeat' first | exact .nil | refine E.c ?_))⟩
 ·
  skip
  refine AWp.seq ?_
  refine W.kp [0, 1, 2, 4, 5] ?_
  refine AWp.region ?_
  refine L.Y Y.asg ?_
  refine AList.nil ?_
  refine AWp.seq ?_
  refine AWp.seq ?_
  refine AWp.region ?_
  refine L.Y Y.mv ?_
  refine L.Y (Y.ln Try.underlying22) ?_
  refine L.Y Y.mv ?_
  refine AList.nil ?_
  refine AWp.block ?_
  refine AWp.loopI (fun kk e H => kk ≤ k ∧ ∃ (x6 : Int) (x18 : Int) (x19 : Int) (x334000 : Int) (x334001 : Int) (x335000 : Int) (x335001 : Int) (x339000 : Int) (x339001 : Int) (x339002 : List Int), e = [(2, .ptr 0 0), (4, .ptr 1 0), (5, .ptr 2 0), (6, .lit (.int .i64 x6)), (17, .row 1 l1.length false (ints .i64 l1)), (18, .lit (.int .i64 x18)), (19, .lit (.int .i64 x19))] ∧ H = [.bx 28 [.lit (.int .i64 x334000), .lit (.int .i64 x334001), .row 1 l0_2.length false (ints .i64 l0_2)], .bx 28 [.lit (.int .i64 x335000), .lit (.int .i64 x335001), .lit (.slice none 0 0)], .bx 28 [.lit (.int .i64 x339000), .lit (.int .i64 x339001), .own 3 x339002.length], .sl 3 1 x339002.length true (ints .i64 x339002)] ∧ spec_feCover.l0 kk x6 l1 x18 x19 x334000 x334001 l0_2 x339000 x339001 x339002 = some (r1, r2, r3)) (k := k)
   ⟨_, _, ⟨Nat.le_refl _, _, _, _, _, _, _, _, _, _, _, rfl, rfl, h⟩, IsPart.at [] [0, 1, 3, 2] base0 (H.c (H.c (H.c (H.c .nil)))) (E.c (E.c (E.c (E.c (E.c (E.c (E.c .nil)))))))⟩ ?_
  clear h
  rintro k1 e H ⟨hk2, x6, x18, x19, x334000, x334001, x335000, x335001, x339000, x339001, x339002, rfl, rfl, h⟩
  cases k1 with
  | zero => exact absurd h (by simp [spec_feCover.l0])
  | succ k1 =>
  simp only [spec_feCover.l0] at h
  refine AWp.seq ?_
  refine AWp.region ?_
  refine L.Y Y.bin ?_
  refine AList.nil ?_
  refine AWp.seq ?_
  refine W.cond (fun hb => ?_) (fun hb => ?_)
  ·
   have hb3 := hb
   try simp only [hS, hE, ne_eq] at hb
   first | rw [if_pos hb3] at h | rw [if_neg (Bool.eq_false_iff.1 hb3)] at h | rw [if_pos hb] at h | rw [if_neg hb] at h | (simp only [hb, hT, reduceIte] at h) | skip
   repeat (first | (rw [iN] at h; obtain ⟨_, h⟩ := h) | (rw [iP] at h; obtain ⟨_, h⟩ := h) | (simp only [bS] at h))
   refine AWp.skip ?_
   refine AWp.seq ?_
   refine AWp.block ?_
   refine AWp.seq ?_
   refine AWp.region ?_
   refine L.Y (Y.ixr Try.underlying22 Y3) ?_
   refine L.S (S.ld Try.underlying3) ?_
   refine L.Y Y.asg ?_
   refine AList.nil ?_
   refine AWp.seq ?_
   refine AWp.region ?_
   refine L.Y Y.mv ?_
   refine L.Y (Y.fa (off := 2) Try.underlying28 Y22) ?_
   refine L.S (S.ld Try.underlying22) ?_
   refine L.Y Y.mv ?_
   refine L.Y (Y.ixr Try.underlying22 Y3) ?_
   refine L.S (S.ld Try.underlying3) ?_
   refine L.Y Y.bin ?_
   refine L.Y Y.asg ?_
   refine AList.nil ?_
   refine W.kp [2, 4, 5, 6, 8, 17, 18, 19, 20] ?_
   refine AWp.region ?_
   refine L.Y (Y.fa (off := 2) Try.underlying28 Y22) ?_
   refine L.S (S.ld Try.underlying22) ?_
   refine L.Y Y.mv ?_
   refine L.Y Y.mv ?_
   refine L.Y (Y.ixo Try.underlying22 Y3) ?_
   refine L.S (S.sts Y3) ?_
   refine AList.nil ?_
   refine W.kp [2, 4, 5, 6, 8, 17, 18, 19, 20] ?_
   refine AWp.region ?_
   refine L.Y Y.bin ?_
   refine L.Y Y.mv ?_
   refine AList.nil ?_
   exact ⟨k1, by omega, _, _, ⟨by omega, _, _, _, _, _, _, _, _, _, _, rfl, rfl, h⟩, IsPart.at [] [0, 1, 2, 3] base0 (H.c (H.c (H.c (H.c .nil)))) (E.c (E.c (E.c (E.c (E.c (E.c (E.c .nil)))))))⟩
  ·
   have hb3 := hb
   try simp only [hS, hE, ne_eq] at hb
   first | rw [if_pos hb3] at h | rw [if_neg (Bool.eq_false_iff.1 hb3)] at h | rw [if_pos hb] at h | rw [if_neg hb] at h | (simp only [hb, hT, reduceIte] at h) | skip
   refine AWp.exit ?_
   refine AWp.seq ?_
   refine AWp.region ?_
   refine L.S (S.ldN Try.underlying28 Y28) ?_
   refine L.S (S.stb Y28) ?_
   refine AList.nil ?_
   simp only [Option.some.injEq, Prod.mk.injEq] at h
   obtain ⟨rfl, rfl, rfl⟩ := h
   refine AWp.ret ?_
   exact ⟨.inr rfl, _, _, _, Res.cl Try.underlying28 Y28, ⟨rfl, rfl⟩, PartV.at [] [3] base0 (H.c .nil)⟩

/-! ### spec_CoverOf: function 22 -/
def spec_CoverOf.f (k : Nat) (a0_0 : Int) (a0_1 : Int) (l0_2 : List Int) (l1 : List Int) : Option (Int × Int × List Int × Bool) := (spec_FreeOrder.f k a0_0 a0_1 l0_2 l1).bind fun bt344 => (if bt344.2 = true then ((spec_feCover.f k a0_0 a0_1 l0_2 bt344.1).bind fun bt348 => (some (bt348.1, bt348.2.1, bt348.2.2, true))) else (some (0, 0, ([] : List Int), false)))
set_option maxRecDepth 100000 in
set_option maxHeartbeats 20000000 in
theorem spec_CoverOf.ac (k : Nat) (a0_0 : Int) (a0_1 : Int) (l0_2 : List Int) (l1 : List Int) (r1 : Int) (r2 : Int) (r3 : List Int) (r4 : Bool) (h : spec_CoverOf.f k a0_0 a0_1 l0_2 l1 = some (r1, r2, r3, r4)) :
  ACalls Try.prog 22 [.agg [.lit (.int .i64 a0_0), .lit (.int .i64 a0_1), .row 1 l0_2.length false (ints .i64 l0_2)], .row 1 l1.length false (ints .i64 l1)] [] (fun v H' => v = .tup [.agg [.lit (.int .i64 r1), .lit (.int .i64 r2), .own 0 r3.length], .lit (.bool r4)] ∧ H' = [.sl 3 1 r3.length false (ints .i64 r3)]) := by
 refine ACalls.ofV Try.func22 rfl (by exact Nat.le_of_ble_eq_true rfl) ?_
 simp only [Try.ntmps22, env0, spec_CoverOf.f] at h ⊢
 refine AWp.seq ?_
 refine AWp.region ?_
 refine L.M M.bx ?_
 refine L.M (M.al Y28) ?_
 refine L.Y Y.asg ?_
 refine AList.nil ?_
 refine AWp.seq ?_
 refine AWp.region ?_
 refine L.S (S.ldN Try.underlying28 Y28) ?_
 refine L.Y Y.mv ?_
 obtain ⟨⟨t344, t347⟩, hc1, h⟩ := Option.bind_eq_some_iff.1 h
 dsimp only at h
 refine L.C (C.callE (l := true) [] Try.func24 (spec_FreeOrder.ac _ _ _ _ _ _ _ hc1) .nil ?_)
 refine L.Y Y.mv ?_
 refine L.Y Y.ex ?_
 refine L.Y Y.ex ?_
 refine L.Y Y.asg ?_
 refine L.Y Y.asg ?_
 refine AList.nil ?_
 refine AWp.seq ?_
 refine AWp.seq ?_
 refine W.kp [0, 1, 2, 4, 5, 6, 7] ?_
 refine AWp.region ?_
 refine L.Y Y.mv ?_
 refine L.Y Y.nt ?_
 refine AList.nil ?_
 refine W.cond (fun hb => ?_) (fun hb => ?_)
 ·
  have hb2 := hb
  try simp only [hS, hE, ne_eq] at hb
  first | rw [if_pos hb2] at h | rw [if_neg (Bool.eq_false_iff.1 hb2)] at h | rw [if_pos hb] at h | rw [if_neg hb] at h | (simp only [hb, hT, reduceIte] at h) | skip
  refine AWp.seq ?_
  refine AWp.region ?_
  refine L.Y (Y.bd Try.underlying28 Y28 P28) ?_
  refine L.S (S.stb Y28) ?_
  refine L.Y Y.asg ?_
  refine AList.nil ?_
  simp only [Option.some.injEq, Prod.mk.injEq] at h
  obtain ⟨rfl, rfl, rfl, rfl⟩ := h
  refine AWp.ret ?_
  exact ⟨.inr rfl, _, _, _, Res.c2 Try.underlying28 Y28, ⟨rfl, rfl⟩, PartV.at [(3, 1)] [3] base0 (H.c .nil)⟩
 ·
  have hb2 := hb
  try simp only [hS, hE, ne_eq] at hb
  first | rw [if_pos hb2] at h | rw [if_neg (Bool.eq_false_iff.1 hb2)] at h | rw [if_pos hb] at h | rw [if_neg hb] at h | (simp only [hb, hT, reduceIte] at h) | skip
  refine AWp.skip ?_
  refine AWp.seq ?_
  refine AWp.region ?_
  refine L.S (S.ldN Try.underlying28 Y28) ?_
  refine L.Y Y.mv ?_
  obtain ⟨⟨t348, t349, t350⟩, hc3, h⟩ := Option.bind_eq_some_iff.1 h
  dsimp only at h
  refine L.C (C.callE (l := true) [] Try.func51 (spec_feCover.ac _ _ _ _ _ _ _ _ hc3) .nil ?_)
  refine L.S (S.stb Y28) ?_
  refine L.Y Y.asg ?_
  refine AList.nil ?_
  simp only [Option.some.injEq, Prod.mk.injEq] at h
  obtain ⟨rfl, rfl, rfl, rfl⟩ := h
  refine AWp.ret ?_
  exact ⟨.inr rfl, _, _, _, Res.c2 Try.underlying28 Y28, ⟨rfl, rfl⟩, PartV.at [] [3] base0 (H.c .nil)⟩

end Go.Proofs.Ytpippjgphndjmaa.PFnCovers
