-- Written by a program of this session's (wip/myprint2): the functions by the kit's print, the walks by awgen.py. Lean checks it.
import Derived.Test.YtpippjgphndjmaaDoorPFnRationalTablesx0
import Derived.Test.YtpippjgphndjmaaDoorPFnRationalTablesx2
import Derived.Test.YtpippjgphndjmaaDoorPFnRationalTablesx3
namespace Go.Proofs.YtpippjgphndjmaaDoor.PFnRationalTables
open Go.RowKit Go.Proofs.YtpippjgphndjmaaDoorW.PrintWords Go.Proofs.YtpippjgphndjmaaDoorW.PrintLast Go.Proofs.YtpippjgphndjmaaDoorW.PrintMore Go.Proofs.YtpippjgphndjmaaDoorM Go.Proofs.YtpippjgphndjmaaDoorA Go.Proofs.YtpippjgphndjmaaDoorT
attribute [local go_sem] max2_int min2_int max_two min_two max_three min_three max_four min_four   -- for this text's walks alone
set_option linter.unusedVariables false
set_option linter.unusedSimpArgs false

/-! ### spec_l1Same: function 94 -/
def spec_l1Same.l0 : Nat → List Int → List Int → Int → Int → Option (Bool)
 | 0, _, _, _, _ => none
 | k + 1, x0, x1, x12, x13 => if x13 < x12 then (if 0 ≤ x13 then (if x13 < (x0.length : Int) then (if x13 < (x1.length : Int) then (if (rd x0 x13) = (rd x1 x13) then (spec_l1Same.l0 k x0 x1 x12 (wrap64 (x13 + 1))) else (some false)) else (none)) else (none)) else (none)) else (some true)
def spec_l1Same.f (k : Nat) (l0 : List Int) (l1 : List Int) : Option (Bool) := if (l0.length : Int) = (l1.length : Int) then (spec_l1Same.l0 k l0 l1 (l0.length : Int) 0) else (some false)
set_option maxRecDepth 100000 in
set_option maxHeartbeats 20000000 in
theorem spec_l1Same.ac (k : Nat) (l0 : List Int) (l1 : List Int) (r : Bool) (h : spec_l1Same.f k l0 l1 = some r) :
  ACalls Tryd.prog 94 [.row 1 l0.length false (ints .i64 l0), .row 1 l1.length false (ints .i64 l1)] [] (fun v H' => v = .lit (.bool r) ∧ H' = []) := by
 refine ACalls.ofP [4] Tryd.func94 rfl (by exact Nat.le_of_ble_eq_true rfl) rfl (by decide) ?_
 simp only [Tryd.ntmps94, env0, spec_l1Same.f] at h ⊢
 refine AWp.seq ?_
 refine AWp.region ?_
 refine L.Y Y.asg ?_
 refine AList.nil ?_
 refine AWp.seq ?_
 refine AWp.seq ?_
 refine AWp.region ?_
 refine L.Y Y.mv ?_
 refine L.Y (Y.ln Tryd.underlying22) ?_
 refine L.Y Y.mv ?_
 refine L.Y (Y.ln Tryd.underlying22) ?_
 refine L.Y Y.bin ?_
 refine AList.nil ?_
 refine W.cond (fun hb => ?_) (fun hb => ?_)
 ·
  have hb1 := hb
  try simp only [hS, hE, ne_eq] at hb
  first | rw [if_pos hb1] at h | rw [if_neg (Bool.eq_false_iff.1 hb1)] at h | rw [if_pos hb] at h | rw [if_neg hb] at h | (simp only [hb, hT, reduceIte] at h) | skip
  refine AWp.seq ?_
  refine W.kp [0, 1, 4, 10] ?_
  refine AWp.region ?_
  refine L.Y Y.asg ?_
  refine AList.nil ?_
  obtain rfl := Option.some.inj h
  refine AWp.ret ?_
  exact ⟨.inr rfl, [(4, _)], _, ⟨rfl, rfl⟩, IsPart.at [] [] base0 .nil (E.c .nil)⟩
 ·
  have hb1 := hb
  try simp only [hS, hE, ne_eq] at hb
  first | rw [if_pos hb1] at h | rw [if_neg (Bool.eq_false_iff.1 hb1)] at h | rw [if_pos hb] at h | rw [if_neg hb] at h | (simp only [hb, hT, reduceIte] at h) | skip
  refine AWp.skip ?_
  refine AWp.seq ?_
  refine AWp.seq ?_
  refine W.kp [0, 1, 4, 10] ?_
  refine AWp.region ?_
  refine L.Y Y.mv ?_
  refine L.Y (Y.ln Tryd.underlying22) ?_
  refine L.Y Y.mv ?_
  refine AList.nil ?_
  refine AWp.block ?_
  refine AWp.loopI (fun kk e H => kk ≤ k ∧ ∃ (x12 : Int) (x13 : Int), e = [(0, .row 1 l0.length false (ints .i64 l0)), (1, .row 1 l1.length false (ints .i64 l1)), (12, .lit (.int .i64 x12)), (13, .lit (.int .i64 x13))] ∧ H = [] ∧ spec_l1Same.l0 kk l0 l1 x12 x13 = some r) (k := k)
   ⟨_, _, ⟨Nat.le_refl _, _, _, rfl, rfl, h⟩, IsPart.at [] [] base0 .nil (E.c (E.c (E.c (E.c .nil))))⟩ ?_
  clear h
  rintro k2 e H ⟨hk3, x12, x13, rfl, rfl, h⟩
  cases k2 with
  | zero => exact absurd h (by simp [spec_l1Same.l0])
  | succ k2 =>
  simp only [spec_l1Same.l0] at h
  refine AWp.seq ?_
  refine AWp.region ?_
  refine L.Y Y.bin ?_
  refine AList.nil ?_
  refine AWp.seq ?_
  refine W.cond (fun hb => ?_) (fun hb => ?_)
  ·
   have hb4 := hb
   try simp only [hS, hE, ne_eq] at hb
   first | rw [if_pos hb4] at h | rw [if_neg (Bool.eq_false_iff.1 hb4)] at h | rw [if_pos hb] at h | rw [if_neg hb] at h | (simp only [hb, hT, reduceIte] at h) | skip
   repeat (first | (rw [iN] at h; obtain ⟨_, h⟩ := h) | (rw [iP] at h; obtain ⟨_, h⟩ := h) | (simp only [bS] at h))
   refine AWp.skip ?_
   refine AWp.seq ?_
   refine AWp.block ?_
   refine AWp.seq ?_
   refine AWp.region ?_
   refine L.Y Y.mv ?_
   refine L.Y Y.asg ?_
   refine AList.nil ?_
   refine AWp.seq ?_
   refine Dt.reg [] [] (.y 0 (.y 1 (.y 2 (.t 3 (.y 4 (.y 5 (.y 6 (.t 7 (.y 8 .done))))))))) HM ?_
   refine Dt.Y rfl wantN Y.mv ?_
   refine Dt.Y rfl wantN Y.mv ?_
   refine Dt.Y rfl wantN (Y.ixr Tryd.underlying22 Y3) ?_
   refine Dt.T rfl wantN (D.ld Tryd.underlying3) ?_
   refine Dt.Y rfl wantN Y.mv ?_
   refine Dt.Y rfl wantN Y.mv ?_
   refine Dt.Y rfl wantN (Y.ixr Tryd.underlying22 Y3) ?_
   refine Dt.T rfl wantN (D.ld Tryd.underlying3) ?_
   refine Dt.Y rfl wantN Y.bin ?_
   refine Dt.nil ?_
   refine W.cond (fun hb => ?_) (fun hb => ?_)
   ·
    have hb5 := hb
    try simp only [hS, hE, ne_eq] at hb
    first | rw [if_pos hb5] at h | rw [if_neg (Bool.eq_false_iff.1 hb5)] at h | rw [if_pos hb] at h | rw [if_neg hb] at h | (simp only [hb, hT, reduceIte] at h) | skip
    refine AWp.seq ?_
    refine W.kp [0, 1, 5, 12, 13, 14, 24] ?_
    refine AWp.region ?_
    refine L.Y Y.asg ?_
    refine AList.nil ?_
    obtain rfl := Option.some.inj h
    refine AWp.ret ?_
    exact ⟨.inr rfl, [(4, _)], _, ⟨rfl, rfl⟩, IsPart.at [] [] base0 .nil (E.c .nil)⟩
   ·
    have hb5 := hb
    try simp only [hS, hE, ne_eq] at hb
    first | rw [if_pos hb5] at h | rw [if_neg (Bool.eq_false_iff.1 hb5)] at h | rw [if_pos hb] at h | rw [if_neg hb] at h | (simp only [hb, hT, reduceIte] at h) | skip
    refine AWp.skip ?_
    refine W.kp [0, 1, 5, 12, 13, 14, 24] ?_
    refine AWp.region ?_
    refine L.Y Y.bin ?_
    refine L.Y Y.mv ?_
    refine AList.nil ?_
    exact ⟨k2, by omega, _, _, ⟨by omega, _, _, rfl, rfl, h⟩, IsPart.at [] [] base0 .nil (E.c (E.c (E.c (E.c .nil))))⟩
  ·
   have hb4 := hb
   try simp only [hS, hE, ne_eq] at hb
   first | rw [if_pos hb4] at h | rw [if_neg (Bool.eq_false_iff.1 hb4)] at h | rw [if_pos hb] at h | rw [if_neg hb] at h | (simp only [hb, hT, reduceIte] at h) | skip
   refine AWp.exit ?_
   refine AWp.seq ?_
   refine AWp.region ?_
   refine L.Y Y.asg ?_
   refine AList.nil ?_
   obtain rfl := Option.some.inj h
   refine AWp.ret ?_
   exact ⟨.inr rfl, [(4, _)], _, ⟨rfl, rfl⟩, IsPart.at [] [] base0 .nil (E.c .nil)⟩

/-! ### spec_cfSize: function 90 -/
def spec_cfSize.f (a0 : Int) : Option (Bool) := (spec_l1In.f a0 0 4).bind fun t376 => (some t376)
set_option maxRecDepth 100000 in
set_option maxHeartbeats 20000000 in
theorem spec_cfSize.ac (a0 : Int) (r : Bool) (h : spec_cfSize.f a0 = some r) :
  ACalls Tryd.prog 90 [.lit (.int .i64 a0)] [] (fun v H' => v = .lit (.bool r) ∧ H' = []) := by
 refine ACalls.ofP [2] Tryd.func90 rfl (by exact Nat.le_of_ble_eq_true rfl) rfl (by decide) ?_
 simp only [Tryd.ntmps90, env0, spec_cfSize.f] at h ⊢
 refine AWp.seq ?_
 refine AWp.region ?_
 refine L.Y Y.asg ?_
 refine AList.nil ?_
 refine AWp.seq ?_
 refine AWp.region ?_
 refine L.Y Y.mv ?_
 obtain ⟨t376, hc1, h⟩ := Option.bind_eq_some_iff.1 h
 refine L.C (C.callE (l := true) [] Tryd.func65 (spec_l1In.ac _ _ _ _ hc1) .nil ?_)
 refine L.Y Y.asg ?_
 refine AList.nil ?_
 obtain rfl := Option.some.inj h
 refine AWp.ret ?_
 exact ⟨.inr rfl, [(2, _)], _, ⟨rfl, rfl⟩, IsPart.at [] [] base0 .nil (E.c .nil)⟩

/-! ### spec_cfGood: function 110 -/
mutual
def spec_cfGood.j0 : Nat → List Int → Bool → Option (Bool)
 | 0, _, _ => none
 | k + 1, x1, x16 => if x16 = true then (some false) else (spec_cfGood.l0 k x1 (x1.length : Int) 0)
def spec_cfGood.l0 : Nat → List Int → Int → Int → Option (Bool)
 | 0, _, _, _ => none
 | k + 1, x17, x18, x19 => if x19 < x18 then (if 0 ≤ x19 then (if x19 < (x17.length : Int) then ((spec_l1In.f (rd x17 x19) 0 x19).bind fun t379 => (if t379 = true then (if (Go.bits .andNot .i64 (rd x17 x19) x19) = 0 then (if (rd x17 x19) = 0 then (if x19 > 0 then (some false) else (spec_cfGood.l0 k x17 x18 (wrap64 (x19 + 1)))) else (spec_cfGood.l0 k x17 x18 (wrap64 (x19 + 1)))) else (some false)) else (some false))) else (none)) else (none)) else (some true)
end
def spec_cfGood.f (k : Nat) (a0 : Int) (l1 : List Int) : Option (Bool) := (spec_cfSize.f a0).bind fun t377 => (if t377 = true then (if 0 ≤ a0 then (spec_cfGood.j0 k l1 ((l1.length : Int) != (shl .i64 1 a0))) else (none)) else (spec_cfGood.j0 k l1 true))
set_option maxRecDepth 100000 in
set_option maxHeartbeats 20000000 in
theorem spec_cfGood.ac (k : Nat) (a0 : Int) (l1 : List Int) (r : Bool) (h : spec_cfGood.f k a0 l1 = some r) :
  ACalls Tryd.prog 110 [.lit (.int .i64 a0), .row 1 l1.length false (ints .i64 l1)] [] (fun v H' => v = .lit (.bool r) ∧ H' = []) := by
 refine ACalls.ofP [4] Tryd.func110 rfl (by exact Nat.le_of_ble_eq_true rfl) rfl (by decide) ?_
 simp only [Tryd.ntmps110, env0, spec_cfGood.f] at h ⊢
 refine AWp.seq ?_
 refine AWp.region ?_
 refine L.Y Y.asg ?_
 refine AList.nil ?_
 refine AWp.seq ?_
 refine AWp.seq ?_
 refine AWp.region ?_
 refine L.Y Y.mv ?_
 obtain ⟨t377, hc1, h⟩ := Option.bind_eq_some_iff.1 h
 refine L.C (C.callE (l := true) [] Tryd.func90 (spec_cfSize.ac _ _ hc1) .nil ?_)
 refine L.Y Y.nt ?_
 refine L.Y Y.mv ?_
 refine L.Gc (fun hb => ?_) (fun hb => ?_)
 ·
  have hb2 := hb
  try simp only [hS, hE, ne_eq] at hb
  first | rw [if_pos hb2] at h | rw [if_neg (Bool.eq_false_iff.1 hb2)] at h | rw [if_pos hb] at h | rw [if_neg hb] at h | (simp only [hb, hT, reduceIte] at h) | skip
  refine L.Gn hb2 ?_
  refine L.Gn hb2 ?_
  refine L.Gn hb2 ?_
  refine L.Gn hb2 ?_
  refine L.Gn hb2 ?_
  refine L.Y (Y.pk (c := true) hb2) ?_
  refine AList.nil ?_
  rcases k with _ | k
  ·
   exact absurd h (by simp [spec_cfGood.j0])
  simp only [spec_cfGood.j0] at h
  refine W.cond (fun hb => ?_) (fun hb => ?_)
  rotate_left
  ·
   exact DD hb
  have hb3 := hb
  try (first | rw [if_pos hb3] at h | rw [if_neg (Bool.eq_false_iff.1 hb3)] at h | rw [if_pos hb] at h | rw [if_neg hb] at h | (simp only [hb, hT, reduceIte] at h) | skip)
  refine AWp.seq ?_
  refine W.kp [0, 1, 4, 16] ?_
  refine AWp.region ?_
  refine L.Y Y.asg ?_
  refine AList.nil ?_
  obtain rfl := Option.some.inj h
  refine AWp.ret ?_
  exact ⟨.inr rfl, [(4, _)], _, ⟨rfl, rfl⟩, IsPart.at [] [] base0 .nil (E.c .nil)⟩
 ·
  have hb2 := hb
  try simp only [hS, hE, ne_eq] at hb
  first | rw [if_pos hb2] at h | rw [if_neg (Bool.eq_false_iff.1 hb2)] at h | rw [if_pos hb] at h | rw [if_neg hb] at h | (simp only [hb, hT, reduceIte] at h) | skip
  repeat (first | (rw [iN] at h; obtain ⟨_, h⟩ := h) | (rw [iP] at h; obtain ⟨_, h⟩ := h) | (simp only [bS] at h))
  refine L.Gy hb2 Y.mv ?_
  refine L.Gy hb2 (Y.ln Tryd.underlying22) ?_
  refine L.Gy hb2 Y.mv ?_
  refine L.Gy hb2 Y.bin ?_
  refine L.Gy hb2 Y.bin ?_
  refine L.Y (Y.pk (c := false) hb2) ?_
  refine AList.nil ?_
  rcases k with _ | k
  ·
   exact absurd h (by simp [spec_cfGood.j0])
  simp only [spec_cfGood.j0] at h
  refine W.cond (fun hb => ?_) (fun hb => ?_)
  ·
   have hb4 := hb
   try simp only [hS, hE, ne_eq] at hb
   first | rw [if_pos hb4] at h | rw [if_neg (Bool.eq_false_iff.1 hb4)] at h | rw [if_pos hb] at h | rw [if_neg hb] at h | (simp only [hb, hT, reduceIte] at h) | skip
   refine AWp.seq ?_
   refine W.kp [0, 1, 4, 16] ?_
   refine AWp.region ?_
   refine L.Y Y.asg ?_
   refine AList.nil ?_
   obtain rfl := Option.some.inj h
   refine AWp.ret ?_
   exact ⟨.inr rfl, [(4, _)], _, ⟨rfl, rfl⟩, IsPart.at [] [] base0 .nil (E.c .nil)⟩
  ·
   have hb4 := hb
   try simp only [hS, hE, ne_eq] at hb
   first | rw [if_pos hb4] at h | rw [if_neg (Bool.eq_false_iff.1 hb4)] at h | rw [if_pos hb] at h | rw [if_neg hb] at h | (simp only [hb, hT, reduceIte] at h) | skip
   refine AWp.skip ?_
   refine AWp.seq ?_
   refine AWp.seq ?_
   refine W.kp [0, 1, 4, 16] ?_
   refine AWp.region ?_
   refine L.Y Y.mv ?_
   refine L.Y (Y.ln Tryd.underlying22) ?_
   refine L.Y Y.mv ?_
   refine AList.nil ?_
   refine AWp.block ?_
   refine AWp.loopI (fun kk e H => kk ≤ k ∧ ∃ (x18 : Int) (x19 : Int), e = [(17, .row 1 l1.length false (ints .i64 l1)), (18, .lit (.int .i64 x18)), (19, .lit (.int .i64 x19))] ∧ H = [] ∧ spec_cfGood.l0 kk l1 x18 x19 = some r) (k := k)
    ⟨_, _, ⟨Nat.le_refl _, _, _, rfl, rfl, h⟩, IsPart.at [] [] base0 .nil (E.c (E.c (E.c .nil)))⟩ ?_
   clear h
   rintro k5 e H ⟨hk6, x18, x19, rfl, rfl, h⟩
   cases k5 with
   | zero => exact absurd h (by simp [spec_cfGood.l0])
   | succ k5 =>
   simp only [spec_cfGood.l0] at h
   refine AWp.seq ?_
   refine AWp.region ?_
   refine L.Y Y.bin ?_
   refine AList.nil ?_
   refine AWp.seq ?_
   refine W.cond (fun hb => ?_) (fun hb => ?_)
   ·
    have hb7 := hb
    try simp only [hS, hE, ne_eq] at hb
    first | rw [if_pos hb7] at h | rw [if_neg (Bool.eq_false_iff.1 hb7)] at h | rw [if_pos hb] at h | rw [if_neg hb] at h | (simp only [hb, hT, reduceIte] at h) | skip
    repeat (first | (rw [iN] at h; obtain ⟨_, h⟩ := h) | (rw [iP] at h; obtain ⟨_, h⟩ := h) | (simp only [bS] at h))
    refine AWp.skip ?_
    refine AWp.seq ?_
    refine AWp.block ?_
    refine AWp.seq ?_
    refine AWp.region ?_
    refine L.Y Y.mv ?_
    refine L.Y (Y.ixr Tryd.underlying22 Y3) ?_
    refine L.S (S.ld Tryd.underlying3) ?_
    refine L.Y Y.asg ?_
    refine L.Y Y.asg ?_
    refine AList.nil ?_
    refine AWp.seq ?_
    refine AWp.region ?_
    refine L.Y Y.mv ?_
    refine L.Y Y.mv ?_
    obtain ⟨t379, hc8, h⟩ := Option.bind_eq_some_iff.1 h
    refine L.C (C.callE (l := true) [] Tryd.func65 (spec_l1In.ac _ _ _ _ hc8) .nil ?_)
    refine L.Y Y.nt ?_
    refine L.Y Y.mv ?_
    refine L.Gc (fun hb => ?_) (fun hb => ?_)
    ·
     have hb9 := hb
     try simp only [hS, hE, ne_eq] at hb
     first | rw [if_pos hb9] at h | rw [if_neg (Bool.eq_false_iff.1 hb9)] at h | rw [if_pos hb] at h | rw [if_neg hb] at h | (simp only [hb, hT, reduceIte] at h) | skip
     refine L.Gn hb9 ?_
     refine L.Gn hb9 ?_
     refine L.Gn hb9 ?_
     refine L.Gn hb9 ?_
     refine L.Y (Y.pk (c := true) hb9) ?_
     refine L.Y Y.mv ?_
     refine L.Gc (fun hb => ?_) (fun hb => ?_)
     rotate_left
     ·
      exact DD hb
     have hb10 := hb
     refine L.Gn hb10 ?_
     refine L.Gn hb10 ?_
     refine L.Gn hb10 ?_
     refine L.Nu ?_
     refine L.Nu ?_
     refine L.Gn hb10 ?_
     refine L.Y (Y.pk (c := true) hb10) ?_
     refine AList.nil ?_
     refine W.cond (fun hb => ?_) (fun hb => ?_)
     rotate_left
     ·
      exact DD hb
     have hb11 := hb
     refine AWp.seq ?_
     refine W.kp [5, 6, 17, 18, 19, 20, 41] ?_
     refine AWp.region ?_
     refine L.Y Y.asg ?_
     refine AList.nil ?_
     obtain rfl := Option.some.inj h
     refine AWp.ret ?_
     exact ⟨.inr rfl, [(4, _)], _, ⟨rfl, rfl⟩, IsPart.at [] [] base0 .nil (E.c .nil)⟩
    ·
     have hb9 := hb
     try simp only [hS, hE, ne_eq] at hb
     first | rw [if_pos hb9] at h | rw [if_neg (Bool.eq_false_iff.1 hb9)] at h | rw [if_pos hb] at h | rw [if_neg hb] at h | (simp only [hb, hT, reduceIte] at h) | skip
     refine L.Gy hb9 Y.mv ?_
     refine L.Gy hb9 Y.mv ?_
     refine L.Gy hb9 Y.bin ?_
     refine L.Gy hb9 Y.bin ?_
     refine L.Y (Y.pk (c := false) hb9) ?_
     refine L.Y Y.mv ?_
     refine L.Gc (fun hb => ?_) (fun hb => ?_)
     ·
      have hb12 := hb
      try simp only [hS, hE, ne_eq] at hb
      first | rw [if_pos hb12] at h | rw [if_neg (Bool.eq_false_iff.1 hb12)] at h | rw [if_pos hb] at h | rw [if_neg hb] at h | (simp only [hb, hT, reduceIte] at h) | skip
      refine L.Gn hb12 ?_
      refine L.Gn hb12 ?_
      refine L.Gn hb12 ?_
      refine L.Nu ?_
      refine L.Nu ?_
      refine L.Gn hb12 ?_
      refine L.Y (Y.pk (c := true) hb12) ?_
      refine AList.nil ?_
      refine W.cond (fun hb => ?_) (fun hb => ?_)
      rotate_left
      ·
       exact DD hb
      have hb13 := hb
      refine AWp.seq ?_
      refine W.kp [5, 6, 17, 18, 19, 20, 41] ?_
      refine AWp.region ?_
      refine L.Y Y.asg ?_
      refine AList.nil ?_
      obtain rfl := Option.some.inj h
      refine AWp.ret ?_
      exact ⟨.inr rfl, [(4, _)], _, ⟨rfl, rfl⟩, IsPart.at [] [] base0 .nil (E.c .nil)⟩
     ·
      have hb12 := hb
      try simp only [hS, hE, ne_eq] at hb
      first | rw [if_pos hb12] at h | rw [if_neg (Bool.eq_false_iff.1 hb12)] at h | rw [if_pos hb] at h | rw [if_neg hb] at h | (simp only [hb, hT, reduceIte] at h) | skip
      refine L.Gy hb12 Y.mv ?_
      refine L.Gy hb12 Y.bin ?_
      refine L.Gy hb12 Y.mv ?_
      refine L.Gc (fun hb => ?_) (fun hb => ?_)
      ·
       have hb14 := hb
       try simp only [hS, hE, ne_eq] at hb
       first | rw [if_pos hb14] at h | rw [if_neg (Bool.eq_false_iff.1 hb14)] at h | rw [if_pos hb] at h | rw [if_neg hb] at h | (simp only [hb, hT, reduceIte] at h) | skip
       refine L.Gy hb14 Y.mv ?_
       refine L.Gy hb14 Y.bin ?_
       refine L.Gy hb12 (Y.pk (c := true) hb14) ?_
       refine L.Y (Y.pk (c := false) hb12) ?_
       refine AList.nil ?_
       refine W.cond (fun hb => ?_) (fun hb => ?_)
       ·
        have hb15 := hb
        try simp only [hS, hE, ne_eq] at hb
        first | rw [if_pos hb15] at h | rw [if_neg (Bool.eq_false_iff.1 hb15)] at h | rw [if_pos hb] at h | rw [if_neg hb] at h | (simp only [hb, hT, reduceIte] at h) | skip
        refine AWp.seq ?_
        refine W.kp [5, 6, 17, 18, 19, 20, 41] ?_
        refine AWp.region ?_
        refine L.Y Y.asg ?_
        refine AList.nil ?_
        obtain rfl := Option.some.inj h
        refine AWp.ret ?_
        exact ⟨.inr rfl, [(4, _)], _, ⟨rfl, rfl⟩, IsPart.at [] [] base0 .nil (E.c .nil)⟩
       ·
        have hb15 := hb
        try simp only [hS, hE, ne_eq] at hb
        first | rw [if_pos hb15] at h | rw [if_neg (Bool.eq_false_iff.1 hb15)] at h | rw [if_pos hb] at h | rw [if_neg hb] at h | (simp only [hb, hT, reduceIte] at h) | skip
        refine AWp.skip ?_
        refine W.kp [5, 6, 17, 18, 19, 20, 41] ?_
        refine AWp.region ?_
        refine L.Y Y.bin ?_
        refine L.Y Y.mv ?_
        refine AList.nil ?_
        exact ⟨k5, by omega, _, _, ⟨by omega, _, _, rfl, rfl, h⟩, IsPart.at [] [] base0 .nil (E.c (E.c (E.c .nil)))⟩
      ·
       have hb14 := hb
       try simp only [hS, hE, ne_eq] at hb
       first | rw [if_pos hb14] at h | rw [if_neg (Bool.eq_false_iff.1 hb14)] at h | rw [if_pos hb] at h | rw [if_neg hb] at h | (simp only [hb, hT, reduceIte] at h) | skip
       refine L.Gn hb14 ?_
       refine L.Gn hb14 ?_
       refine L.Gy hb12 (Y.pk (c := false) hb14) ?_
       refine L.Y (Y.pk (c := false) hb12) ?_
       refine AList.nil ?_
       refine W.cond (fun hb => ?_) (fun hb => ?_)
       ·
        exact DD hb
       have hb16 := hb
       refine AWp.skip ?_
       refine W.kp [5, 6, 17, 18, 19, 20, 41] ?_
       refine AWp.region ?_
       refine L.Y Y.bin ?_
       refine L.Y Y.mv ?_
       refine AList.nil ?_
       exact ⟨k5, by omega, _, _, ⟨by omega, _, _, rfl, rfl, h⟩, IsPart.at [] [] base0 .nil (E.c (E.c (E.c .nil)))⟩
   ·
    have hb7 := hb
    try simp only [hS, hE, ne_eq] at hb
    first | rw [if_pos hb7] at h | rw [if_neg (Bool.eq_false_iff.1 hb7)] at h | rw [if_pos hb] at h | rw [if_neg hb] at h | (simp only [hb, hT, reduceIte] at h) | skip
    refine AWp.exit ?_
    refine AWp.seq ?_
    refine AWp.region ?_
    refine L.Y Y.asg ?_
    refine AList.nil ?_
    obtain rfl := Option.some.inj h
    refine AWp.ret ?_
    exact ⟨.inr rfl, [(4, _)], _, ⟨rfl, rfl⟩, IsPart.at [] [] base0 .nil (E.c .nil)⟩

/-! ### spec_cfRevealed: function 111 -/
mutual
def spec_cfRevealed.l0 : Nat → Int → List Int → Int → Int → List Int → Option (Int × List Int)
 | 0, _, _, _, _, _ => none
 | k + 1, x0, x1, x6, x385000, x385001 => if x6 < x0 then (spec_cfRevealed.l1 k x0 x1 x6 0 x385000 x385001) else (some (x385000, x385001))
def spec_cfRevealed.l1 : Nat → Int → List Int → Int → Int → Int → List Int → Option (Int × List Int)
 | 0, _, _, _, _, _, _ => none
 | k + 1, x0, x1, x6, x7, x385000, x385001 => if x7 < x0 then (if x6 = x7 then (spec_cfRevealed.l1 k x0 x1 x6 (wrap64 (x7 + 1)) x385000 x385001) else (if 0 ≤ x6 then (if 0 ≤ x7 then (if 0 ≤ (Go.bits .or .i64 (shl .i64 1 x6) (shl .i64 1 x7)) then (if (Go.bits .or .i64 (shl .i64 1 x6) (shl .i64 1 x7)) < (x1.length : Int) then (if (rd x1 (Go.bits .or .i64 (shl .i64 1 x6) (shl .i64 1 x7))) = (shl .i64 1 x7) then (if x6 < (x385001.length : Int) then (spec_cfRevealed.l1 k x0 x1 x6 (wrap64 (x7 + 1)) x385000 (x385001.set (x6 : Int).toNat (Go.bits .or .i64 (rd x385001 x6) (shl .i64 1 x7)))) else (none)) else (spec_cfRevealed.l1 k x0 x1 x6 (wrap64 (x7 + 1)) x385000 x385001)) else (none)) else (none)) else (none)) else (none))) else (spec_cfRevealed.l0 k x0 x1 (wrap64 (x6 + 1)) x385000 x385001)
end
def spec_cfRevealed.f (k : Nat) (a0 : Int) (l1 : List Int) : Option (Int × List Int) := if 0 ≤ a0 then (if (a0 : Int).toNat ≤ 35184372088832 then (spec_cfRevealed.l0 k a0 l1 0 a0 (List.replicate (a0 : Int).toNat 0)) else (none)) else (none)
set_option maxRecDepth 100000 in
set_option maxHeartbeats 20000000 in
theorem spec_cfRevealed.ac (k : Nat) (a0 : Int) (l1 : List Int) (r1 : Int) (r2 : List Int) (h : spec_cfRevealed.f k a0 l1 = some (r1, r2)) :
  ACalls Tryd.prog 111 [.lit (.int .i64 a0), .row 1 l1.length false (ints .i64 l1)] [] (fun v H' => v = .agg [.lit (.int .i64 r1), .own 0 r2.length] ∧ H' = [.sl 3 1 r2.length false (ints .i64 r2)]) := by
 refine ACalls.ofV Tryd.func111 rfl (by exact Nat.le_of_ble_eq_true rfl) ?_
 simp only [Tryd.ntmps111, env0, spec_cfRevealed.f] at h ⊢
 repeat (first | (rw [iN] at h; obtain ⟨_, h⟩ := h) | (rw [iP] at h; obtain ⟨_, h⟩ := h) | (simp only [bS] at h))
 refine AWp.seq ?_
 refine AWp.region ?_
 refine L.M (M.al Y30) ?_
 refine AList.nil ?_
 refine AWp.seq ?_
 refine AWp.region ?_
 refine L.Y Y.mv ?_
 refine L.Y Y.mv ?_
 refine L.M (M.mk Tryd.underlying22 Y3) ?_
 refine L.Y (Y.bd Tryd.underlying30 Y30 P30) ?_
 refine L.M (M.al Y30) ?_
 refine L.S (S.stb Y30) ?_
 refine AList.nil ?_
 refine AWp.seq ?_
 refine AWp.seq ?_
 refine W.kp [0, 1, 4, 5] ?_
 refine AWp.region ?_
 refine L.Y Y.asg ?_
 refine AList.nil ?_
 refine AWp.block ?_
 refine AWp.loopI (fun kk e H => kk ≤ k ∧ ∃ (x0 : Int) (x6 : Int) (x381000 : Int) (x385000 : Int) (x385001 : List Int), e = [(0, .lit (.int .i64 x0)), (1, .row 1 l1.length false (ints .i64 l1)), (4, .ptr 0 0), (5, .ptr 1 0), (6, .lit (.int .i64 x6))] ∧ H = [.bx 30 [.lit (.int .i64 x381000), .lit (.slice none 0 0)], .bx 30 [.lit (.int .i64 x385000), .own 2 x385001.length], .sl 3 1 x385001.length true (ints .i64 x385001)] ∧ spec_cfRevealed.l0 kk x0 l1 x6 x385000 x385001 = some (r1, r2)) (k := k)
  ⟨_, _, ⟨Nat.le_refl _, _, _, _, _, _, rfl, rfl, h⟩, IsPart.at [] [0, 2, 1] base0 (H.c (H.c (H.c .nil))) (E.c (E.c (E.c (E.c (E.c .nil)))))⟩ ?_
 clear h
 rintro k1 e H ⟨hk2, x0, x6, x381000, x385000, x385001, rfl, rfl, h⟩
 cases k1 with
 | zero => exact absurd h (by simp [spec_cfRevealed.l0])
 | succ k1 =>
 simp only [spec_cfRevealed.l0] at h
 refine AWp.seq ?_
 refine AWp.seq ?_
 refine AWp.region ?_
 refine L.Y Y.mv ?_
 refine L.Y Y.mv ?_
 refine L.Y Y.bin ?_
 refine AList.nil ?_
 refine W.cond (fun hb => ?_) (fun hb => ?_)
 ·
  have hb3 := hb
  try simp only [hS, hE, ne_eq] at hb
  first | rw [if_pos hb3] at h | rw [if_neg (Bool.eq_false_iff.1 hb3)] at h | rw [if_pos hb] at h | rw [if_neg hb] at h | (simp only [hb, hT, reduceIte] at h) | skip
  refine AWp.skip ?_
  refine AWp.seq ?_
  refine AWp.block ?_
  refine AWp.seq ?_
  refine AWp.region ?_
  refine L.Y Y.asg ?_
  refine AList.nil ?_
  refine AWp.block ?_
  refine AWp.loopI (fun kk e H => kk ≤ k1 ∧ ∃ (x0 : Int) (x6 : Int) (x7 : Int) (x381000 : Int) (x385000 : Int) (x385001 : List Int), e = [(0, .lit (.int .i64 x0)), (1, .row 1 l1.length false (ints .i64 l1)), (4, .ptr 0 0), (5, .ptr 1 0), (6, .lit (.int .i64 x6)), (7, .lit (.int .i64 x7))] ∧ H = [.bx 30 [.lit (.int .i64 x381000), .lit (.slice none 0 0)], .bx 30 [.lit (.int .i64 x385000), .own 2 x385001.length], .sl 3 1 x385001.length true (ints .i64 x385001)] ∧ spec_cfRevealed.l1 kk x0 l1 x6 x7 x385000 x385001 = some (r1, r2)) (k := k1)
   ⟨_, _, ⟨Nat.le_refl _, _, _, _, _, _, _, rfl, rfl, h⟩, IsPart.at [] [0, 1, 2] base0 (H.c (H.c (H.c .nil))) (E.c (E.c (E.c (E.c (E.c (E.c .nil))))))⟩ ?_
  clear h
  rintro k4 e H ⟨hk5, x0, x6, x7, x381000, x385000, x385001, rfl, rfl, h⟩
  cases k4 with
  | zero => exact absurd h (by simp [spec_cfRevealed.l1])
  | succ k4 =>
  simp only [spec_cfRevealed.l1] at h
  refine AWp.seq ?_
  refine AWp.seq ?_
  refine AWp.region ?_
  refine L.Y Y.mv ?_
  refine L.Y Y.mv ?_
  refine L.Y Y.bin ?_
  refine AList.nil ?_
  refine W.cond (fun hb => ?_) (fun hb => ?_)
  ·
   have hb6 := hb
   try simp only [hS, hE, ne_eq] at hb
   first | rw [if_pos hb6] at h | rw [if_neg (Bool.eq_false_iff.1 hb6)] at h | rw [if_pos hb] at h | rw [if_neg hb] at h | (simp only [hb, hT, reduceIte] at h) | skip
   refine AWp.skip ?_
   refine AWp.seq ?_
   refine AWp.block ?_
   refine AWp.seq ?_
   refine Dt.reg [] [] (.y 0 (.y 1 (.y 2 (.y 3 (.y 4 (.y 5 (.y 6 (.y 7 (.y 8 (.y 9 (.y 10 (.t 11 (.y 12 (.y 13 (.y 14 (.y 15 .done)))))))))))))))) HM ?_
   refine Dt.Y rfl wantN Y.mv ?_
   refine Dt.Y rfl wantN Y.mv ?_
   refine Dt.Y rfl wantN Y.bin ?_
   refine Dt.Y rfl wantN Y.mv ?_
   refine Dt.F 25 (fun hb => ?_) (fun hb => ?_)
   ·
    have hb7 := hb
    try simp only [hS, hE, ne_eq] at hb
    first | rw [if_pos hb7] at h | rw [if_neg (Bool.eq_false_iff.1 hb7)] at h | rw [if_pos hb] at h | rw [if_neg hb] at h | (simp only [hb, hT, reduceIte] at h) | skip
    repeat (first | (rw [iN] at h; obtain ⟨_, h⟩ := h) | (rw [iP] at h; obtain ⟨_, h⟩ := h) | (simp only [bS] at h))
    refine Dt.Y rfl (wantY hb7) Y.mv ?_
    refine Dt.Y rfl (wantY hb7) Y.mv ?_
    refine Dt.Y rfl (wantY hb7) Y.bin ?_
    refine Dt.Y rfl (wantY hb7) Y.mv ?_
    refine Dt.Y rfl (wantY hb7) Y.bin ?_
    refine Dt.Y rfl (wantY hb7) Y.bin ?_
    refine Dt.Y rfl (wantY hb7) (Y.ixr Tryd.underlying22 Y3) ?_
    refine Dt.T rfl (wantY hb7) (D.ld Tryd.underlying3) ?_
    refine Dt.Y rfl (wantY hb7) Y.mv ?_
    refine Dt.Y rfl (wantY hb7) Y.bin ?_
    refine Dt.Y rfl (wantY hb7) Y.bin ?_
    refine Dt.Y rfl wantN (Y.pk (c := true) hb7) ?_
    refine Dt.nil ?_
    refine W.cond (fun hb => ?_) (fun hb => ?_)
    ·
     have hb8 := hb
     try simp only [hS, hE, ne_eq] at hb
     first | rw [if_pos hb8] at h | rw [if_neg (Bool.eq_false_iff.1 hb8)] at h | rw [if_pos hb] at h | rw [if_neg hb] at h | (simp only [hb, hT, reduceIte] at h) | skip
     repeat (first | (rw [iN] at h; obtain ⟨_, h⟩ := h) | (rw [iP] at h; obtain ⟨_, h⟩ := h) | (simp only [bS] at h))
     refine W.kp [0, 1, 4, 5, 6, 7, 19, 37] ?_
     refine Dt.reg [] [9] (.y 0 (.t 1 (.y 2 (.y 3 (.t 4 (.y 5 (.y 6 (.y 7 (.y 8 (.last 9 .done)))))))))) HM ?_
     refine Dt.Y rfl wantN (Y.fa (off := 1) Tryd.underlying30 Y22) ?_
     refine Dt.T rfl wantN (D.ld Tryd.underlying22) ?_
     refine Dt.Y rfl wantN Y.mv ?_
     refine Dt.Y rfl wantN (Y.ixo Tryd.underlying22 Y3) ?_
     refine Dt.T rfl wantN (D.ld Tryd.underlying3) ?_
     refine Dt.Y rfl wantN Y.mv ?_
     refine Dt.Y rfl wantN Y.bin ?_
     refine Dt.Y rfl wantN Y.bin ?_
     refine Dt.Y rfl wantN (Y.ixo Tryd.underlying22 Y3) ?_
     refine Dt.L rfl wantN ?_
     refine Op.S (S.sts Y3) ?_
     refine Du.nil ?_
     refine W.kp [0, 1, 4, 5, 6, 7, 19, 37] ?_
     refine AWp.region ?_
     refine L.Y Y.mv ?_
     refine L.Y Y.bin ?_
     refine L.Y Y.asg ?_
     refine AList.nil ?_
     exact ⟨k4, by omega, _, _, ⟨by omega, _, _, _, _, _, _, rfl, rfl, h⟩, IsPart.at [] [0, 1, 2] base0 (H.c (H.c (H.c .nil))) (E.c (E.c (E.c (E.c (E.c (E.c .nil))))))⟩
    ·
     have hb8 := hb
     try simp only [hS, hE, ne_eq] at hb
     first | rw [if_pos hb8] at h | rw [if_neg (Bool.eq_false_iff.1 hb8)] at h | rw [if_pos hb] at h | rw [if_neg hb] at h | (simp only [hb, hT, reduceIte] at h) | skip
     refine AWp.skip ?_
     refine W.kp [0, 1, 4, 5, 6, 7, 19, 37] ?_
     refine AWp.region ?_
     refine L.Y Y.mv ?_
     refine L.Y Y.bin ?_
     refine L.Y Y.asg ?_
     refine AList.nil ?_
     exact ⟨k4, by omega, _, _, ⟨by omega, _, _, _, _, _, _, rfl, rfl, h⟩, IsPart.at [] [0, 1, 2] base0 (H.c (H.c (H.c .nil))) (E.c (E.c (E.c (E.c (E.c (E.c .nil))))))⟩
   ·
    have hb7 := hb
    try simp only [hS, hE, ne_eq] at hb
    first | rw [if_pos hb7] at h | rw [if_neg (Bool.eq_false_iff.1 hb7)] at h | rw [if_pos hb] at h | rw [if_neg hb] at h | (simp only [hb, hT, reduceIte] at h) | skip
    refine Dt.No rfl (wantZ hb7) ?_
    refine Dt.No rfl (wantZ hb7) ?_
    refine Dt.No rfl (wantZ hb7) ?_
    refine Dt.No rfl (wantZ hb7) ?_
    refine Dt.No rfl (wantZ hb7) ?_
    refine Dt.No rfl (wantZ hb7) ?_
    refine Dt.No rfl (wantZ hb7) ?_
    refine Dt.Nt rfl (wantZ hb7) ?_
    refine Dt.No rfl (wantZ hb7) ?_
    refine Dt.No rfl (wantZ hb7) ?_
    refine Dt.No rfl (wantZ hb7) ?_
    refine Dt.Y rfl wantN (Y.pk (c := false) hb7) ?_
    refine Dt.nil ?_
    refine W.cond (fun hb => ?_) (fun hb => ?_)
    ·
     exact DD hb
    have hb9 := hb
    refine AWp.skip ?_
    refine W.kp [0, 1, 4, 5, 6, 7, 19, 37] ?_
    refine AWp.region ?_
    refine L.Y Y.mv ?_
    refine L.Y Y.bin ?_
    refine L.Y Y.asg ?_
    refine AList.nil ?_
    exact ⟨k4, by omega, _, _, ⟨by omega, _, _, _, _, _, _, rfl, rfl, h⟩, IsPart.at [] [0, 1, 2] base0 (H.c (H.c (H.c .nil))) (E.c (E.c (E.c (E.c (E.c (E.c .nil))))))⟩
  ·
   have hb6 := hb
   try simp only [hS, hE, ne_eq] at hb
   first | rw [if_pos hb6] at h | rw [if_neg (Bool.eq_false_iff.1 hb6)] at h | rw [if_pos hb] at h | rw [if_neg hb] at h | (simp only [hb, hT, reduceIte] at h) | skip
   refine AWp.exit ?_
   refine AWp.region ?_
   refine L.Y Y.mv ?_
   refine L.Y Y.bin ?_
   refine L.Y Y.asg ?_
   refine AList.nil ?_
   exact ⟨k4, by omega, _, _, ⟨by omega, _, _, _, _, _, rfl, rfl, h⟩, IsPart.at [] [0, 1, 2] base0 (H.c (H.c (H.c .nil))) (E.c (E.c (E.c (E.c (E.c .nil)))))⟩
 ·
  have hb3 := hb
  try simp only [hS, hE, ne_eq] at hb
  first | rw [if_pos hb3] at h | rw [if_neg (Bool.eq_false_iff.1 hb3)] at h | rw [if_pos hb] at h | rw [if_neg hb] at h | (simp only [hb, hT, reduceIte] at h) | skip
  refine AWp.exit ?_
  refine AWp.seq ?_
  refine AWp.region ?_
  refine L.S (S.ldN Tryd.underlying30 Y30) ?_
  refine L.S (S.stb Y30) ?_
  refine AList.nil ?_
  simp only [Option.some.injEq, Prod.mk.injEq] at h
  obtain ⟨rfl, rfl⟩ := h
  refine AWp.ret ?_
  exact ⟨.inr rfl, _, _, _, Res.cl Tryd.underlying30 Y30, ⟨rfl, rfl⟩, PartV.at [] [2] base0 (H.c .nil)⟩

/-! ### spec_IsRational: function 49 -/
def spec_IsRational.f (k : Nat) (a0 : Int) (l1 : List Int) : Option (Bool × Bool) := (spec_cfGood.f k a0 l1).bind fun t388 => (if t388 = true then ((spec_cfRevealed.f k a0 l1).bind fun bt389 => ((spec_cfTable.f k bt389.1 bt389.2).bind fun t393 => ((spec_l1Same.f k t393 l1).bind fun t396 => (some (t396, true))))) else (some (false, false)))
set_option maxRecDepth 100000 in
set_option maxHeartbeats 20000000 in
theorem spec_IsRational.ac (k : Nat) (a0 : Int) (l1 : List Int) (r1 : Bool) (r2 : Bool) (h : spec_IsRational.f k a0 l1 = some (r1, r2)) :
  ACalls Tryd.prog 49 [.lit (.int .i64 a0), .row 1 l1.length false (ints .i64 l1)] [] (fun v H' => v = .tup [.lit (.bool r1), .lit (.bool r2)] ∧ H' = []) := by
 refine ACalls.ofP [4, 5] Tryd.func49 rfl (by exact Nat.le_of_ble_eq_true rfl) rfl (by decide) ?_
 simp only [Tryd.ntmps49, env0, spec_IsRational.f] at h ⊢
 refine AWp.seq ?_
 refine AWp.region ?_
 refine L.Y Y.asg ?_
 refine L.Y Y.asg ?_
 refine AList.nil ?_
 refine AWp.seq ?_
 refine AWp.seq ?_
 refine AWp.region ?_
 refine L.Y Y.mv ?_
 refine L.Y Y.mv ?_
 obtain ⟨t388, hc1, h⟩ := Option.bind_eq_some_iff.1 h
 refine L.C (C.callE (l := true) [] Tryd.func110 (spec_cfGood.ac _ _ _ _ hc1) .nil ?_)
 refine L.Y Y.nt ?_
 refine AList.nil ?_
 refine W.cond (fun hb => ?_) (fun hb => ?_)
 ·
  have hb2 := hb
  try simp only [hS, hE, ne_eq] at hb
  first | rw [if_pos hb2] at h | rw [if_neg (Bool.eq_false_iff.1 hb2)] at h | rw [if_pos hb] at h | rw [if_neg hb] at h | (simp only [hb, hT, reduceIte] at h) | skip
  refine AWp.seq ?_
  refine AWp.region ?_
  refine L.Y Y.asg ?_
  refine L.Y Y.asg ?_
  refine AList.nil ?_
  simp only [Option.some.injEq, Prod.mk.injEq] at h
  obtain ⟨rfl, rfl⟩ := h
  refine AWp.ret ?_
  exact ⟨.inr rfl, [(4, _), (5, _)], _, ⟨rfl, rfl⟩, IsPart.at [] [] base0 .nil (E.c (E.c .nil))⟩
 ·
  have hb2 := hb
  try simp only [hS, hE, ne_eq] at hb
  first | rw [if_pos hb2] at h | rw [if_neg (Bool.eq_false_iff.1 hb2)] at h | rw [if_pos hb] at h | rw [if_neg hb] at h | (simp only [hb, hT, reduceIte] at h) | skip
  refine AWp.skip ?_
  refine AWp.seq ?_
  refine AWp.region ?_
  refine L.Y Y.mv ?_
  refine L.Y Y.mv ?_
  obtain ⟨⟨t389, t390⟩, hc3, h⟩ := Option.bind_eq_some_iff.1 h
  dsimp only at h
  refine L.C (C.callE (l := true) [] Tryd.func111 (spec_cfRevealed.ac _ _ _ _ _ hc3) .nil ?_)
  obtain ⟨t393, hc4, h⟩ := Option.bind_eq_some_iff.1 h
  refine L.C (C.callE (l := true) [] Tryd.func93 (spec_cfTable.ac _ _ _ _ hc4) .nil ?_)
  refine L.Y Y.mv ?_
  obtain ⟨t396, hc5, h⟩ := Option.bind_eq_some_iff.1 h
  refine L.C (C.callE (l := true) [] Tryd.func94 (spec_l1Same.ac _ _ _ _ hc5) .nil ?_)
  refine L.Y Y.asg ?_
  refine L.Y Y.asg ?_
  refine AList.nil ?_
  simp only [Option.some.injEq, Prod.mk.injEq] at h
  obtain ⟨rfl, rfl⟩ := h
  refine AWp.ret ?_
  exact ⟨.inr rfl, [(4, _), (5, _)], _, ⟨rfl, rfl⟩, IsPart.at [] [] base0 .nil (E.c (E.c .nil))⟩

end Go.Proofs.YtpippjgphndjmaaDoor.PFnRationalTables
