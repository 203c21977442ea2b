-- Written by a program of this session's (wip/myprint2): the functions by the kit's print, the walks by awgen.py. Lean checks it.
import Derived.Test.YtpippjgphndjmaaDoorPFnRationalTablesx0
import Derived.Test.YtpippjgphndjmaaDoorPFnRationalTablesx7
import Derived.Test.YtpippjgphndjmaaDoorPFnRationalTablesx9
namespace Go.Proofs.YtpippjgphndjmaaDoor.PFnRationalTables
open Go.RowKit Go.Proofs.YtpippjgphndjmaaDoorW.PrintWords Go.Proofs.YtpippjgphndjmaaDoorW.PrintLast Go.Proofs.YtpippjgphndjmaaDoorW.PrintMore Go.Proofs.YtpippjgphndjmaaDoorM Go.Proofs.YtpippjgphndjmaaDoorA Go.Proofs.YtpippjgphndjmaaDoorT
attribute [local go_sem] max2_int min2_int max_two min_two max_three min_three max_four min_four   -- for this text's walks alone
set_option linter.unusedVariables false
set_option linter.unusedSimpArgs false

/-! ### impl_fails: function 112 -/
mutual
def impl_fails.l0 : Nat → List Int → (Int → Int → Option Bool) → Int → Int → Option (Int × Int × Bool)
 | 0, _, _, _, _ => none
 | k + 1, x1, x2, x16, x17 => if x17 < x16 then (impl_fails.l1 k x1 x2 x17 x16 x17 (x1.length : Int) 0) else (some (0, 0, false))
def impl_fails.l1 : Nat → List Int → (Int → Int → Option Bool) → Int → Int → Int → Int → Int → Option (Int × Int × Bool)
 | 0, _, _, _, _, _, _, _ => none
 | k + 1, x1, x2, x9, x16, x17, x21, x22 => if x22 < x21 then ((x2 x9 x22).bind fun t398 => (if t398 = true then (some (x9, x22, true)) else (impl_fails.l1 k x1 x2 x9 x16 x17 x21 (wrap64 (x22 + 1))))) else (impl_fails.l0 k x1 x2 x16 (wrap64 (x17 + 1)))
end
def impl_fails.f (k : Nat) (a0 : Int) (l1 : List Int) (a2 : (Int → Int → Option Bool)) : Option (Int × Int × Bool) := (impl_isChoice.f k a0 l1).bind fun t397 => (if t397 = true then (impl_fails.l0 k l1 a2 (l1.length : Int) 0) else (some (0, 0, false)))
set_option maxRecDepth 100000 in
set_option maxHeartbeats 20000000 in
theorem impl_fails.ac (k : Nat) (a0 : Int) (l1 : List Int) (a2 : Int → Int → Option Bool) (r1 : Int) (r2 : Int) (r3 : Bool) (h : impl_fails.f k a0 l1 a2 = some (r1, r2, r3)) (F2 : FuncId) (cs2 : List AV) (hF2 : FnOk Tryd.prog F2) (hnf2 : noids cs2 = true) (hcf2 : ∀ x_ y_ r_, a2 x_ y_ = some r_ → ACalls Tryd.prog F2 (.lit (.int .i64 x_) :: .lit (.int .i64 y_) :: cs2) [] (fun v H' => v = .lit (.bool r_) ∧ H' = [])) :
  ACalls Tryd.prog 112 [.lit (.int .i64 a0), .row 1 l1.length false (ints .i64 l1), .fn F2 cs2] [] (fun v H' => v = .tup [.lit (.int .i64 r1), .lit (.int .i64 r2), .lit (.bool r3)] ∧ H' = []) := by
 obtain ⟨fn2, hff2, hnm2, hbd2⟩ := id hF2
 refine ACalls.ofP [6, 7, 8] Tryd.func112 rfl (by exact Nat.le_of_ble_eq_true rfl) rfl (by decide) ?_
 simp only [Tryd.ntmps112, env0, impl_fails.f] at h ⊢
 refine AWp.seq ?_
 refine AWp.region ?_
 refine L.Y Y.asg ?_
 refine L.Y Y.asg ?_
 refine L.Y Y.asg ?_
 refine AList.nil ?_
 refine AWp.seq ?_
 refine AWp.seq ?_
 refine AWp.region ?_
 refine L.Y Y.mv ?_
 refine L.Y Y.mv ?_
 obtain ⟨t397, hc1, h⟩ := Option.bind_eq_some_iff.1 h
 refine L.C (C.callE (l := true) [] Tryd.func106 (impl_isChoice.ac _ _ _ _ hc1) .nil ?_)
 refine L.Y Y.nt ?_
 refine AList.nil ?_
 refine W.cond (fun hb => ?_) (fun hb => ?_)
 ·
  have hb2 := hb
  try simp only [hS, hE, ne_eq] at hb
  first | rw [if_pos hb2] at h | rw [if_neg (Bool.eq_false_iff.1 hb2)] at h | rw [if_pos hb] at h | rw [if_neg hb] at h | (simp only [hb, hT, reduceIte] at h) | skip
  refine AWp.seq ?_
  refine AWp.region ?_
  refine L.Y Y.asg ?_
  refine L.Y Y.asg ?_
  refine L.Y Y.asg ?_
  refine AList.nil ?_
  simp only [Option.some.injEq, Prod.mk.injEq] at h
  obtain ⟨rfl, rfl, rfl⟩ := h
  refine AWp.ret ?_
  exact ⟨.inr rfl, [(6, _), (7, _), (8, _)], _, ⟨rfl, rfl⟩, IsPart.at [] [] base0 .nil (E.c (E.c (E.c .nil)))⟩
 ·
  have hb2 := hb
  try simp only [hS, hE, ne_eq] at hb
  first | rw [if_pos hb2] at h | rw [if_neg (Bool.eq_false_iff.1 hb2)] at h | rw [if_pos hb] at h | rw [if_neg hb] at h | (simp only [hb, hT, reduceIte] at h) | skip
  refine AWp.skip ?_
  refine AWp.seq ?_
  refine AWp.seq ?_
  refine AWp.region ?_
  refine L.Y Y.mv ?_
  refine L.Y (Y.ln Tryd.underlying22) ?_
  refine L.Y Y.mv ?_
  refine AList.nil ?_
  refine AWp.block ?_
  refine AWp.loopI (fun kk e H => kk ≤ k ∧ ∃ (x16 : Int) (x17 : Int), e = [(1, .row 1 l1.length false (ints .i64 l1)), (2, .fn F2 cs2), (16, .lit (.int .i64 x16)), (17, .lit (.int .i64 x17))] ∧ H = [] ∧ impl_fails.l0 kk l1 a2 x16 x17 = some (r1, r2, r3)) (k := k)
   ⟨_, _, ⟨Nat.le_refl _, _, _, rfl, rfl, h⟩, IsPart.at [] [] base0 .nil (E.c (E.c (E.c (E.c .nil))))⟩ ?_
  clear h
  rintro k3 e H ⟨hk4, x16, x17, rfl, rfl, h⟩
  cases k3 with
  | zero => exact absurd h (by simp [impl_fails.l0])
  | succ k3 =>
  simp only [impl_fails.l0] at h
  refine AWp.seq ?_
  refine AWp.region ?_
  refine L.Y Y.bin ?_
  refine AList.nil ?_
  refine AWp.seq ?_
  refine W.cond (fun hb => ?_) (fun hb => ?_)
  ·
   have hb5 := hb
   try simp only [hS, hE, ne_eq] at hb
   first | rw [if_pos hb5] at h | rw [if_neg (Bool.eq_false_iff.1 hb5)] at h | rw [if_pos hb] at h | rw [if_neg hb] at h | (simp only [hb, hT, reduceIte] at h) | skip
   refine AWp.skip ?_
   refine AWp.seq ?_
   refine AWp.block ?_
   refine AWp.seq ?_
   refine AWp.region ?_
   refine L.Y Y.mv ?_
   refine L.Y Y.asg ?_
   refine AList.nil ?_
   refine AWp.seq ?_
   refine AWp.region ?_
   refine L.Y Y.mv ?_
   refine L.Y (Y.ln Tryd.underlying22) ?_
   refine L.Y Y.mv ?_
   refine AList.nil ?_
   refine AWp.block ?_
   refine AWp.loopI (fun kk e H => kk ≤ k3 ∧ ∃ (x9 : Int) (x16 : Int) (x17 : Int) (x21 : Int) (x22 : Int), e = [(1, .row 1 l1.length false (ints .i64 l1)), (2, .fn F2 cs2), (9, .lit (.int .i64 x9)), (16, .lit (.int .i64 x16)), (17, .lit (.int .i64 x17)), (21, .lit (.int .i64 x21)), (22, .lit (.int .i64 x22))] ∧ H = [] ∧ impl_fails.l1 kk l1 a2 x9 x16 x17 x21 x22 = some (r1, r2, r3)) (k := k3)
    ⟨_, _, ⟨Nat.le_refl _, _, _, _, _, _, rfl, rfl, h⟩, IsPart.at [] [] base0 .nil (E.c (E.c (E.c (E.c (E.c (E.c (E.c .nil)))))))⟩ ?_
   clear h
   rintro k6 e H ⟨hk7, x9, x16, x17, x21, x22, rfl, rfl, h⟩
   cases k6 with
   | zero => exact absurd h (by simp [impl_fails.l1])
   | succ k6 =>
   simp only [impl_fails.l1] at h
   refine AWp.seq ?_
   refine AWp.region ?_
   refine L.Y Y.bin ?_
   refine AList.nil ?_
   refine AWp.seq ?_
   refine W.cond (fun hb => ?_) (fun hb => ?_)
   ·
    have hb8 := hb
    try simp only [hS, hE, ne_eq] at hb
    first | rw [if_pos hb8] at h | rw [if_neg (Bool.eq_false_iff.1 hb8)] at h | rw [if_pos hb] at h | rw [if_neg hb] at h | (simp only [hb, hT, reduceIte] at h) | skip
    refine AWp.skip ?_
    refine AWp.seq ?_
    refine AWp.block ?_
    refine AWp.seq ?_
    refine AWp.region ?_
    refine L.Y Y.mv ?_
    refine L.Y Y.asg ?_
    refine AList.nil ?_
    refine AWp.seq ?_
    refine AWp.region ?_
    refine L.Y Y.mv ?_
    refine L.Y Y.mv ?_
    refine L.Y Y.mv ?_
    obtain ⟨t398, hc9, h⟩ := Option.bind_eq_some_iff.1 h
    refine L.C (C.callE (l := true) [] hff2 (hcf2 _ _ _ hc9) .nil ?_ (hname := hnm2) (hb := hbd2))
    refine AList.nil ?_
    refine W.cond (fun hb => ?_) (fun hb => ?_)
    ·
     have hb10 := hb
     try simp only [hS, hE, ne_eq] at hb
     first | rw [if_pos hb10] at h | rw [if_neg (Bool.eq_false_iff.1 hb10)] at h | rw [if_pos hb] at h | rw [if_neg hb] at h | (simp only [hb, hT, reduceIte] at h) | skip
     refine AWp.seq ?_
     refine W.kp [1, 2, 9, 10, 16, 17, 21, 22, 23, 28] ?_
     refine AWp.region ?_
     refine L.Y Y.mv ?_
     refine L.Y Y.mv ?_
     refine L.Y Y.asg ?_
     refine L.Y Y.asg ?_
     refine L.Y Y.asg ?_
     refine AList.nil ?_
     simp only [Option.some.injEq, Prod.mk.injEq] at h
     obtain ⟨rfl, rfl, rfl⟩ := h
     refine AWp.ret ?_
     exact ⟨.inr rfl, [(6, _), (7, _), (8, _)], _, ⟨rfl, rfl⟩, IsPart.at [] [] base0 .nil (E.c (E.c (E.c .nil)))⟩
    ·
     have hb10 := hb
     try simp only [hS, hE, ne_eq] at hb
     first | rw [if_pos hb10] at h | rw [if_neg (Bool.eq_false_iff.1 hb10)] at h | rw [if_pos hb] at h | rw [if_neg hb] at h | (simp only [hb, hT, reduceIte] at h) | skip
     refine AWp.skip ?_
     refine W.kp [1, 2, 9, 10, 16, 17, 21, 22, 23, 28] ?_
     refine AWp.region ?_
     refine L.Y Y.bin ?_
     refine L.Y Y.mv ?_
     refine AList.nil ?_
     exact ⟨k6, by omega, _, _, ⟨by omega, _, _, _, _, _, rfl, rfl, h⟩, IsPart.at [] [] base0 .nil (E.c (E.c (E.c (E.c (E.c (E.c (E.c .nil)))))))⟩
   ·
    have hb8 := hb
    try simp only [hS, hE, ne_eq] at hb
    first | rw [if_pos hb8] at h | rw [if_neg (Bool.eq_false_iff.1 hb8)] at h | rw [if_pos hb] at h | rw [if_neg hb] at h | (simp only [hb, hT, reduceIte] at h) | skip
    refine AWp.exit ?_
    refine AWp.region ?_
    refine L.Y Y.bin ?_
    refine L.Y Y.mv ?_
    refine AList.nil ?_
    exact ⟨k6, by omega, _, _, ⟨by omega, _, _, rfl, rfl, h⟩, IsPart.at [] [] base0 .nil (E.c (E.c (E.c (E.c .nil))))⟩
  ·
   have hb5 := hb
   try simp only [hS, hE, ne_eq] at hb
   first | rw [if_pos hb5] at h | rw [if_neg (Bool.eq_false_iff.1 hb5)] at h | rw [if_pos hb] at h | rw [if_neg hb] at h | (simp only [hb, hT, reduceIte] at h) | skip
   refine AWp.exit ?_
   refine AWp.seq ?_
   refine AWp.region ?_
   refine L.Y Y.asg ?_
   refine L.Y Y.asg ?_
   refine L.Y Y.asg ?_
   refine AList.nil ?_
   simp only [Option.some.injEq, Prod.mk.injEq] at h
   obtain ⟨rfl, rfl, rfl⟩ := h
   refine AWp.ret ?_
   exact ⟨.inr rfl, [(6, _), (7, _), (8, _)], _, ⟨rfl, rfl⟩, IsPart.at [] [] base0 .nil (E.c (E.c (E.c .nil)))⟩

/-! ### impl_ShrinkFails_1: function 113 -/
def impl_ShrinkFails_1.f (a0 : Int) (a1 : Int) (l2_0 : List Int) : Option (Bool) := if (Go.bits .andNot .i64 a1 a0) = 0 then (if 0 ≤ a0 then (if a0 < (l2_0.length : Int) then (if 0 ≤ a1 then (if a1 < (l2_0.length : Int) then (some ((Go.bits .andNot .i64 (Go.bits .and .i64 (rd l2_0 a0) a1) (rd l2_0 a1)) != 0)) else (none)) else (none)) else (none)) else (none)) else (some false)
set_option maxRecDepth 100000 in
set_option maxHeartbeats 20000000 in
theorem impl_ShrinkFails_1.ac (a0 : Int) (a1 : Int) (l2_0 : List Int) (r : Bool) (h : impl_ShrinkFails_1.f a0 a1 l2_0 = some r) :
  ACalls Tryd.prog 113 [.lit (.int .i64 a0), .lit (.int .i64 a1), .rptr [.row 1 l2_0.length false (ints .i64 l2_0)]] [] (fun v H' => v = .lit (.bool r) ∧ H' = []) := by
 refine ACalls.ofP [5] Tryd.func113 rfl (by exact Nat.le_of_ble_eq_true rfl) rfl (by decide) ?_
 simp only [Tryd.ntmps113, env0, impl_ShrinkFails_1.f] at h ⊢
 refine AWp.seq ?_
 refine AWp.region ?_
 refine L.Y Y.asg ?_
 refine AList.nil ?_
 refine AWp.seq ?_
 refine Dt.reg [] [] (.y 0 (.y 1 (.y 2 (.y 3 (.y 4 (.t 5 (.y 6 (.y 7 (.t 8 (.y 9 (.y 10 (.t 11 (.y 12 (.y 13 (.t 14 (.y 15 (.y 16 (.y 17 (.y 18 .done))))))))))))))))))) HM ?_
 refine Dt.Y rfl wantN Y.mv ?_
 refine Dt.Y rfl wantN Y.mv ?_
 refine Dt.Y rfl wantN Y.bin ?_
 refine Dt.Y rfl wantN Y.bin ?_
 refine Dt.Y rfl wantN Y.mv ?_
 refine Dt.F 10 (fun hb => ?_) (fun hb => ?_)
 ·
  have hb1 := hb
  try simp only [hS, hE, ne_eq] at hb
  first | rw [if_pos hb1] at h | rw [if_neg (Bool.eq_false_iff.1 hb1)] at h | rw [if_pos hb] at h | rw [if_neg hb] at h | (simp only [hb, hT, reduceIte] at h) | skip
  repeat (first | (rw [iN] at h; obtain ⟨_, h⟩ := h) | (rw [iP] at h; obtain ⟨_, h⟩ := h) | (simp only [bS] at h))
  refine Dt.T rfl (wantY hb1) (D.ld Tryd.underlying22) ?_
  refine Dt.Y rfl (wantY hb1) Y.mv ?_
  refine Dt.Y rfl (wantY hb1) (Y.ixr Tryd.underlying22 Y3) ?_
  refine Dt.T rfl (wantY hb1) (D.ld Tryd.underlying3) ?_
  refine Dt.Y rfl (wantY hb1) Y.mv ?_
  refine Dt.Y rfl (wantY hb1) Y.bin ?_
  refine Dt.T rfl (wantY hb1) (D.ld Tryd.underlying22) ?_
  refine Dt.Y rfl (wantY hb1) Y.mv ?_
  refine Dt.Y rfl (wantY hb1) (Y.ixr Tryd.underlying22 Y3) ?_
  refine Dt.T rfl (wantY hb1) (D.ld Tryd.underlying3) ?_
  refine Dt.Y rfl (wantY hb1) Y.bin ?_
  refine Dt.Y rfl (wantY hb1) Y.bin ?_
  refine Dt.Y rfl wantN (Y.pk (c := true) hb1) ?_
  refine Dt.Y rfl wantN Y.asg ?_
  refine Dt.nil ?_
  obtain rfl := Option.some.inj h
  refine AWp.ret ?_
  exact ⟨.inr rfl, [(5, _)], _, ⟨rfl, rfl⟩, IsPart.at [] [] base0 .nil (E.c .nil)⟩
 ·
  have hb1 := hb
  try simp only [hS, hE, ne_eq] at hb
  first | rw [if_pos hb1] at h | rw [if_neg (Bool.eq_false_iff.1 hb1)] at h | rw [if_pos hb] at h | rw [if_neg hb] at h | (simp only [hb, hT, reduceIte] at h) | skip
  refine Dt.Nt rfl (wantZ hb1) ?_
  refine Dt.No rfl (wantZ hb1) ?_
  refine Dt.No rfl (wantZ hb1) ?_
  refine Dt.Nt rfl (wantZ hb1) ?_
  refine Dt.No rfl (wantZ hb1) ?_
  refine Dt.No rfl (wantZ hb1) ?_
  refine Dt.Nt rfl (wantZ hb1) ?_
  refine Dt.No rfl (wantZ hb1) ?_
  refine Dt.No rfl (wantZ hb1) ?_
  refine Dt.Nt rfl (wantZ hb1) ?_
  refine Dt.No rfl (wantZ hb1) ?_
  refine Dt.No rfl (wantZ hb1) ?_
  refine Dt.Y rfl wantN (Y.pk (c := false) hb1) ?_
  refine Dt.Y rfl wantN Y.asg ?_
  refine Dt.nil ?_
  obtain rfl := Option.some.inj h
  refine AWp.ret ?_
  exact ⟨.inr rfl, [(5, _)], _, ⟨rfl, rfl⟩, IsPart.at [] [] base0 .nil (E.c .nil)⟩

/-! ### impl_ShrinkFails: function 50 -/
def impl_ShrinkFails.f (k : Nat) (a0 : Int) (l1 : List Int) : Option (Int × Int × Bool) := (impl_fails.f k a0 l1 (fun z0_ z1_ => impl_ShrinkFails_1.f z0_ z1_ l1)).bind fun bt402 => (some (bt402.1, bt402.2.1, bt402.2.2))
set_option maxRecDepth 100000 in
set_option maxHeartbeats 20000000 in
theorem impl_ShrinkFails.ac (k : Nat) (a0 : Int) (l1 : List Int) (r1 : Int) (r2 : Int) (r3 : Bool) (h : impl_ShrinkFails.f k a0 l1 = some (r1, r2, r3)) :
  ACalls Tryd.prog 50 [.lit (.int .i64 a0), .row 1 l1.length false (ints .i64 l1)] [] (fun v H' => v = .tup [.lit (.int .i64 r1), .lit (.int .i64 r2), .lit (.bool r3)] ∧ H' = []) := by
 refine ACalls.ofP [4, 5, 6] Tryd.func50 rfl (by exact Nat.le_of_ble_eq_true rfl) rfl (by decide) ?_
 simp only [Tryd.ntmps50, env0, impl_ShrinkFails.f] at h ⊢
 refine AWp.seq ?_
 refine AWp.region ?_
 refine L.M M.bx ?_
 refine L.Y Y.asg ?_
 refine L.Y Y.asg ?_
 refine L.Y Y.asg ?_
 refine AList.nil ?_
 refine AWp.seq ?_
 refine AWp.region ?_
 refine L.Y Y.mv ?_
 refine L.S (S.ld Tryd.underlying22) ?_
 refine L.Y Y.fn ?_
 obtain ⟨⟨t402, t403, t404⟩, hc1, h⟩ := Option.bind_eq_some_iff.1 h
 dsimp only at h
 refine L.C (C.callE (l := true) [] Tryd.func112 (impl_fails.ac _ _ _ _ _ _ _ hc1 113 _ (FnOk.at_ Tryd.func113) (by simp [noids, noid, noids_ints]) (fun x_ y_ r_ h_ => impl_ShrinkFails_1.ac x_ y_ _ r_ h_)) .nil ?_)
 refine L.Y Y.ex ?_
 refine L.Y Y.ex ?_
 refine L.Y Y.ex ?_
 refine L.Y Y.asg ?_
 refine L.Y Y.asg ?_
 refine L.Y Y.asg ?_
 refine AList.nil ?_
 simp only [Option.some.injEq, Prod.mk.injEq] at h
 obtain ⟨rfl, rfl, rfl⟩ := h
 refine AWp.ret ?_
 exact ⟨.inr rfl, [(4, _), (5, _), (6, _)], _, ⟨rfl, rfl⟩, IsPart.at [] [] base0 .nil (E.c (E.c (E.c .nil)))⟩

/-! ### spec_cfFails: function 140 -/
def spec_cfFails.f (l0 : List Int) (a1 : Int) (a2 : Int) (a3 : Int) : Option (Bool) := if a3 = 0 then (if (Go.bits .andNot .i64 a2 a1) = 0 then (if 0 ≤ a1 then (if a1 < (l0.length : Int) then (if 0 ≤ a2 then (if a2 < (l0.length : Int) then (some ((Go.bits .andNot .i64 (Go.bits .and .i64 (rd l0 a1) a2) (rd l0 a2)) != 0)) else (none)) else (none)) else (none)) else (none)) else (some false)) else (if a3 = 1 then (if 0 ≤ a1 then (if a1 < (l0.length : Int) then (if 0 ≤ a2 then (if a2 < (l0.length : Int) then (if 0 ≤ (Go.bits .or .i64 a1 a2) then (if (Go.bits .or .i64 a1 a2) < (l0.length : Int) then (some ((Go.bits .andNot .i64 (Go.bits .and .i64 (rd l0 a1) (rd l0 a2)) (rd l0 (Go.bits .or .i64 a1 a2))) != 0)) else (none)) else (none)) else (none)) else (none)) else (none)) else (none)) else (if a3 = 2 then (if (Go.bits .andNot .i64 a2 a1) = 0 then (if 0 ≤ a1 then (if a1 < (l0.length : Int) then (if (Go.bits .andNot .i64 (rd l0 a1) a2) = 0 then (if 0 ≤ a2 then (if a2 < (l0.length : Int) then (some ((Go.bits .andNot .i64 (rd l0 a2) (rd l0 a1)) != 0)) else (none)) else (none)) else (some false)) else (none)) else (none)) else (some false)) else (if 0 ≤ (Go.bits .or .i64 a1 a2) then (if (Go.bits .or .i64 a1 a2) < (l0.length : Int) then (if 0 ≤ a1 then (if a1 < (l0.length : Int) then (if 0 ≤ a2 then (if a2 < (l0.length : Int) then (if 0 ≤ (Go.bits .or .i64 (rd l0 a1) (rd l0 a2)) then (if (Go.bits .or .i64 (rd l0 a1) (rd l0 a2)) < (l0.length : Int) then (some ((rd l0 (Go.bits .or .i64 a1 a2)) != (rd l0 (Go.bits .or .i64 (rd l0 a1) (rd l0 a2))))) else (none)) else (none)) else (none)) else (none)) else (none)) else (none)) else (none)) else (none))))
set_option maxRecDepth 100000 in
set_option maxHeartbeats 20000000 in
theorem spec_cfFails.ac (l0 : List Int) (a1 : Int) (a2 : Int) (a3 : Int) (r : Bool) (h : spec_cfFails.f l0 a1 a2 a3 = some r) :
  ACalls Tryd.prog 140 [.row 1 l0.length false (ints .i64 l0), .lit (.int .i64 a1), .lit (.int .i64 a2), .lit (.int .i64 a3)] [] (fun v H' => v = .lit (.bool r) ∧ H' = []) := by
 refine ACalls.ofP [8] Tryd.func140 rfl (by exact Nat.le_of_ble_eq_true rfl) rfl (by decide) ?_
 simp only [Tryd.ntmps140, env0, spec_cfFails.f] at h ⊢
 refine AWp.seq ?_
 refine AWp.region ?_
 refine L.Y Y.asg ?_
 refine AList.nil ?_
 refine AWp.seq ?_
 refine AWp.seq ?_
 refine AWp.region ?_
 refine L.Y Y.mv ?_
 refine AList.nil ?_
 refine AWp.block ?_
 refine AWp.seq ?_
 refine AWp.region ?_
 refine L.Y Y.bin ?_
 refine L.Y Y.asg ?_
 refine AList.nil ?_
 refine W.cond (fun hb => ?_) (fun hb => ?_)
 ·
  have hb1 := hb
  try simp only [hS, hE, ne_eq] at hb
  first | rw [if_pos hb1] at h | rw [if_neg (Bool.eq_false_iff.1 hb1)] at h | rw [if_pos hb] at h | rw [if_neg hb] at h | (simp only [hb, hT, reduceIte] at h) | skip
  refine AWp.seq ?_
  refine Dt.reg [] [] (.y 0 (.y 1 (.y 2 (.y 3 (.y 4 (.y 5 (.y 6 (.y 7 (.t 8 (.y 9 (.y 10 (.y 11 (.y 12 (.y 13 (.t 14 (.y 15 (.y 16 (.y 17 (.y 18 .done))))))))))))))))))) HM ?_
  refine Dt.Y rfl wantN Y.mv ?_
  refine Dt.Y rfl wantN Y.mv ?_
  refine Dt.Y rfl wantN Y.bin ?_
  refine Dt.Y rfl wantN Y.bin ?_
  refine Dt.Y rfl wantN Y.mv ?_
  refine Dt.F 16 (fun hb => ?_) (fun hb => ?_)
  ·
   have hb2 := hb
   try simp only [hS, hE, ne_eq] at hb
   first | rw [if_pos hb2] at h | rw [if_neg (Bool.eq_false_iff.1 hb2)] at h | rw [if_pos hb] at h | rw [if_neg hb] at h | (simp only [hb, hT, reduceIte] at h) | skip
   repeat (first | (rw [iN] at h; obtain ⟨_, h⟩ := h) | (rw [iP] at h; obtain ⟨_, h⟩ := h) | (simp only [bS] at h))
   refine Dt.Y rfl (wantY hb2) Y.mv ?_
   refine Dt.Y rfl (wantY hb2) Y.mv ?_
   refine Dt.Y rfl (wantY hb2) (Y.ixr Tryd.underlying22 Y3) ?_
   refine Dt.T rfl (wantY hb2) (D.ld Tryd.underlying3) ?_
   refine Dt.Y rfl (wantY hb2) Y.mv ?_
   refine Dt.Y rfl (wantY hb2) Y.bin ?_
   refine Dt.Y rfl (wantY hb2) Y.mv ?_
   refine Dt.Y rfl (wantY hb2) Y.mv ?_
   refine Dt.Y rfl (wantY hb2) (Y.ixr Tryd.underlying22 Y3) ?_
   refine Dt.T rfl (wantY hb2) (D.ld Tryd.underlying3) ?_
   refine Dt.Y rfl (wantY hb2) Y.bin ?_
   refine Dt.Y rfl (wantY hb2) Y.bin ?_
   refine Dt.Y rfl wantN (Y.pk (c := true) hb2) ?_
   refine Dt.Y rfl wantN Y.asg ?_
   refine Dt.nil ?_
   obtain rfl := Option.some.inj h
   refine AWp.ret ?_
   exact ⟨.inr rfl, [(8, _)], _, ⟨rfl, rfl⟩, IsPart.at [] [] base0 .nil (E.c .nil)⟩
  ·
   have hb2 := hb
   try simp only [hS, hE, ne_eq] at hb
   first | rw [if_pos hb2] at h | rw [if_neg (Bool.eq_false_iff.1 hb2)] at h | rw [if_pos hb] at h | rw [if_neg hb] at h | (simp only [hb, hT, reduceIte] at h) | skip
   refine Dt.No rfl (wantZ hb2) ?_
   refine Dt.No rfl (wantZ hb2) ?_
   refine Dt.No rfl (wantZ hb2) ?_
   refine Dt.Nt rfl (wantZ hb2) ?_
   refine Dt.No rfl (wantZ hb2) ?_
   refine Dt.No rfl (wantZ hb2) ?_
   refine Dt.No rfl (wantZ hb2) ?_
   refine Dt.No rfl (wantZ hb2) ?_
   refine Dt.No rfl (wantZ hb2) ?_
   refine Dt.Nt rfl (wantZ hb2) ?_
   refine Dt.No rfl (wantZ hb2) ?_
   refine Dt.No rfl (wantZ hb2) ?_
   refine Dt.Y rfl wantN (Y.pk (c := false) hb2) ?_
   refine Dt.Y rfl wantN Y.asg ?_
   refine Dt.nil ?_
   obtain rfl := Option.some.inj h
   refine AWp.ret ?_
   exact ⟨.inr rfl, [(8, _)], _, ⟨rfl, rfl⟩, IsPart.at [] [] base0 .nil (E.c .nil)⟩
 ·
  have hb1 := hb
  try simp only [hS, hE, ne_eq] at hb
  first | rw [if_pos hb1] at h | rw [if_neg (Bool.eq_false_iff.1 hb1)] at h | rw [if_pos hb] at h | rw [if_neg hb] at h | (simp only [hb, hT, reduceIte] at h) | skip
  refine AWp.seq ?_
  refine AWp.region ?_
  refine L.Y Y.bin ?_
  refine L.Y Y.asg ?_
  refine AList.nil ?_
  refine W.cond (fun hb => ?_) (fun hb => ?_)
  ·
   have hb3 := hb
   try simp only [hS, hE, ne_eq] at hb
   first | rw [if_pos hb3] at h | rw [if_neg (Bool.eq_false_iff.1 hb3)] at h | rw [if_pos hb] at h | rw [if_neg hb] at h | (simp only [hb, hT, reduceIte] at h) | skip
   repeat (first | (rw [iN] at h; obtain ⟨_, h⟩ := h) | (rw [iP] at h; obtain ⟨_, h⟩ := h) | (simp only [bS] at h))
   refine AWp.seq ?_
   refine Dt.reg [] [] (.y 0 (.y 1 (.y 2 (.t 3 (.y 4 (.y 5 (.y 6 (.t 7 (.y 8 (.y 9 (.y 10 (.y 11 (.y 12 (.y 13 (.t 14 (.y 15 (.y 16 (.y 17 .done)))))))))))))))))) HM ?_
   refine Dt.Y rfl wantN Y.mv ?_
   refine Dt.Y rfl wantN Y.mv ?_
   refine Dt.Y rfl wantN (Y.ixr Tryd.underlying22 Y3) ?_
   refine Dt.T rfl wantN (D.ld Tryd.underlying3) ?_
   refine Dt.Y rfl wantN Y.mv ?_
   refine Dt.Y rfl wantN Y.mv ?_
   refine Dt.Y rfl wantN (Y.ixr Tryd.underlying22 Y3) ?_
   refine Dt.T rfl wantN (D.ld Tryd.underlying3) ?_
   refine Dt.Y rfl wantN Y.bin ?_
   refine Dt.Y rfl wantN Y.mv ?_
   refine Dt.Y rfl wantN Y.mv ?_
   refine Dt.Y rfl wantN Y.mv ?_
   refine Dt.Y rfl wantN Y.bin ?_
   refine Dt.Y rfl wantN (Y.ixr Tryd.underlying22 Y3) ?_
   refine Dt.T rfl wantN (D.ld Tryd.underlying3) ?_
   refine Dt.Y rfl wantN Y.bin ?_
   refine Dt.Y rfl wantN Y.bin ?_
   refine Dt.Y rfl wantN Y.asg ?_
   refine Dt.nil ?_
   obtain rfl := Option.some.inj h
   refine AWp.ret ?_
   exact ⟨.inr rfl, [(8, _)], _, ⟨rfl, rfl⟩, IsPart.at [] [] base0 .nil (E.c .nil)⟩
  ·
   have hb3 := hb
   try simp only [hS, hE, ne_eq] at hb
   first | rw [if_pos hb3] at h | rw [if_neg (Bool.eq_false_iff.1 hb3)] at h | rw [if_pos hb] at h | rw [if_neg hb] at h | (simp only [hb, hT, reduceIte] at h) | skip
   refine AWp.seq ?_
   refine AWp.region ?_
   refine L.Y Y.bin ?_
   refine L.Y Y.asg ?_
   refine AList.nil ?_
   refine W.cond (fun hb => ?_) (fun hb => ?_)
   ·
    have hb4 := hb
    try simp only [hS, hE, ne_eq] at hb
    first | rw [if_pos hb4] at h | rw [if_neg (Bool.eq_false_iff.1 hb4)] at h | rw [if_pos hb] at h | rw [if_neg hb] at h | (simp only [hb, hT, reduceIte] at h) | skip
    refine AWp.seq ?_
    refine Dt.reg [] [] (.y 0 (.y 1 (.y 2 (.y 3 (.y 4 (.y 5 (.y 6 (.y 7 (.t 8 (.y 9 (.y 10 (.y 11 (.y 12 (.y 13 (.y 14 (.y 15 (.y 16 (.t 17 (.y 18 (.y 19 (.y 20 (.t 21 (.y 22 (.y 23 (.y 24 (.y 25 .done)))))))))))))))))))))))))) HM ?_
    refine Dt.Y rfl wantN Y.mv ?_
    refine Dt.Y rfl wantN Y.mv ?_
    refine Dt.Y rfl wantN Y.bin ?_
    refine Dt.Y rfl wantN Y.bin ?_
    refine Dt.Y rfl wantN Y.mv ?_
    refine Dt.F 55 (fun hb => ?_) (fun hb => ?_)
    ·
     have hb5 := hb
     try simp only [hS, hE, ne_eq] at hb
     first | rw [if_pos hb5] at h | rw [if_neg (Bool.eq_false_iff.1 hb5)] at h | rw [if_pos hb] at h | rw [if_neg hb] at h | (simp only [hb, hT, reduceIte] at h) | skip
     repeat (first | (rw [iN] at h; obtain ⟨_, h⟩ := h) | (rw [iP] at h; obtain ⟨_, h⟩ := h) | (simp only [bS] at h))
     refine Dt.Y rfl (wantY hb5) Y.mv ?_
     refine Dt.Y rfl (wantY hb5) Y.mv ?_
     refine Dt.Y rfl (wantY hb5) (Y.ixr Tryd.underlying22 Y3) ?_
     refine Dt.T rfl (wantY hb5) (D.ld Tryd.underlying3) ?_
     refine Dt.Y rfl (wantY hb5) Y.mv ?_
     refine Dt.Y rfl (wantY hb5) Y.bin ?_
     refine Dt.Y rfl (wantY hb5) Y.bin ?_
     refine Dt.Y rfl wantN (Y.pk (c := true) hb5) ?_
     refine Dt.Y rfl wantN Y.mv ?_
     refine Dt.F 64 (fun hb => ?_) (fun hb => ?_)
     ·
      have hb6 := hb
      try simp only [hS, hE, ne_eq] at hb
      first | rw [if_pos hb6] at h | rw [if_neg (Bool.eq_false_iff.1 hb6)] at h | rw [if_pos hb] at h | rw [if_neg hb] at h | (simp only [hb, hT, reduceIte] at h) | skip
      repeat (first | (rw [iN] at h; obtain ⟨_, h⟩ := h) | (rw [iP] at h; obtain ⟨_, h⟩ := h) | (simp only [bS] at h))
      refine Dt.Y rfl (wantY hb6) Y.mv ?_
      refine Dt.Y rfl (wantY hb6) Y.mv ?_
      refine Dt.Y rfl (wantY hb6) (Y.ixr Tryd.underlying22 Y3) ?_
      refine Dt.T rfl (wantY hb6) (D.ld Tryd.underlying3) ?_
      refine Dt.Y rfl (wantY hb6) Y.mv ?_
      refine Dt.Y rfl (wantY hb6) Y.mv ?_
      refine Dt.Y rfl (wantY hb6) (Y.ixr Tryd.underlying22 Y3) ?_
      refine Dt.T rfl (wantY hb6) (D.ld Tryd.underlying3) ?_
      refine Dt.Y rfl (wantY hb6) Y.bin ?_
      refine Dt.Y rfl (wantY hb6) Y.bin ?_
      refine Dt.Y rfl wantN (Y.pk (c := true) hb6) ?_
      refine Dt.Y rfl wantN Y.asg ?_
      refine Dt.nil ?_
      obtain rfl := Option.some.inj h
      refine AWp.ret ?_
      exact ⟨.inr rfl, [(8, _)], _, ⟨rfl, rfl⟩, IsPart.at [] [] base0 .nil (E.c .nil)⟩
     ·
      have hb6 := hb
      try simp only [hS, hE, ne_eq] at hb
      first | rw [if_pos hb6] at h | rw [if_neg (Bool.eq_false_iff.1 hb6)] at h | rw [if_pos hb] at h | rw [if_neg hb] at h | (simp only [hb, hT, reduceIte] at h) | skip
      refine Dt.No rfl (wantZ hb6) ?_
      refine Dt.No rfl (wantZ hb6) ?_
      refine Dt.No rfl (wantZ hb6) ?_
      refine Dt.Nt rfl (wantZ hb6) ?_
      refine Dt.No rfl (wantZ hb6) ?_
      refine Dt.No rfl (wantZ hb6) ?_
      refine Dt.No rfl (wantZ hb6) ?_
      refine Dt.Nt rfl (wantZ hb6) ?_
      refine Dt.No rfl (wantZ hb6) ?_
      refine Dt.No rfl (wantZ hb6) ?_
      refine Dt.Y rfl wantN (Y.pk (c := false) hb6) ?_
      refine Dt.Y rfl wantN Y.asg ?_
      refine Dt.nil ?_
      obtain rfl := Option.some.inj h
      refine AWp.ret ?_
      exact ⟨.inr rfl, [(8, _)], _, ⟨rfl, rfl⟩, IsPart.at [] [] base0 .nil (E.c .nil)⟩
    ·
     have hb5 := hb
     try simp only [hS, hE, ne_eq] at hb
     first | rw [if_pos hb5] at h | rw [if_neg (Bool.eq_false_iff.1 hb5)] at h | rw [if_pos hb] at h | rw [if_neg hb] at h | (simp only [hb, hT, reduceIte] at h) | skip
     refine Dt.No rfl (wantZ hb5) ?_
     refine Dt.No rfl (wantZ hb5) ?_
     refine Dt.No rfl (wantZ hb5) ?_
     refine Dt.Nt rfl (wantZ hb5) ?_
     refine Dt.No rfl (wantZ hb5) ?_
     refine Dt.No rfl (wantZ hb5) ?_
     refine Dt.No rfl (wantZ hb5) ?_
     refine Dt.Y rfl wantN (Y.pk (c := false) hb5) ?_
     refine Dt.Y rfl wantN Y.mv ?_
     refine Dt.F 64 (fun hb => ?_) (fun hb => ?_)
     ·
      exact DD hb
     have hb7 := hb
     refine Dt.No rfl (wantZ hb7) ?_
     refine Dt.No rfl (wantZ hb7) ?_
     refine Dt.No rfl (wantZ hb7) ?_
     refine Dt.Nt rfl (wantZ hb7) ?_
     refine Dt.No rfl (wantZ hb7) ?_
     refine Dt.No rfl (wantZ hb7) ?_
     refine Dt.No rfl (wantZ hb7) ?_
     refine Dt.Nt rfl (wantZ hb7) ?_
     refine Dt.No rfl (wantZ hb7) ?_
     refine Dt.No rfl (wantZ hb7) ?_
     refine Dt.Y rfl wantN (Y.pk (c := false) hb7) ?_
     refine Dt.Y rfl wantN Y.asg ?_
     refine Dt.nil ?_
     obtain rfl := Option.some.inj h
     refine AWp.ret ?_
     exact ⟨.inr rfl, [(8, _)], _, ⟨rfl, rfl⟩, IsPart.at [] [] base0 .nil (E.c .nil)⟩
   ·
    have hb4 := hb
    try simp only [hS, hE, ne_eq] at hb
    first | rw [if_pos hb4] at h | rw [if_neg (Bool.eq_false_iff.1 hb4)] at h | rw [if_pos hb] at h | rw [if_neg hb] at h | (simp only [hb, hT, reduceIte] at h) | skip
    repeat (first | (rw [iN] at h; obtain ⟨_, h⟩ := h) | (rw [iP] at h; obtain ⟨_, h⟩ := h) | (simp only [bS] at h))
    refine AWp.skip ?_
    refine AWp.seq ?_
    refine Dt.reg [] [] (.y 0 (.y 1 (.y 2 (.y 3 (.y 4 (.t 5 (.y 6 (.y 7 (.y 8 (.y 9 (.t 10 (.y 11 (.y 12 (.y 13 (.t 14 (.y 15 (.y 16 (.t 17 (.y 18 (.y 19 .done)))))))))))))))))))) HM ?_
    refine Dt.Y rfl wantN Y.mv ?_
    refine Dt.Y rfl wantN Y.mv ?_
    refine Dt.Y rfl wantN Y.mv ?_
    refine Dt.Y rfl wantN Y.bin ?_
    refine Dt.Y rfl wantN (Y.ixr Tryd.underlying22 Y3) ?_
    refine Dt.T rfl wantN (D.ld Tryd.underlying3) ?_
    refine Dt.Y rfl wantN Y.mv ?_
    refine Dt.Y rfl wantN Y.mv ?_
    refine Dt.Y rfl wantN Y.mv ?_
    refine Dt.Y rfl wantN (Y.ixr Tryd.underlying22 Y3) ?_
    refine Dt.T rfl wantN (D.ld Tryd.underlying3) ?_
    refine Dt.Y rfl wantN Y.mv ?_
    refine Dt.Y rfl wantN Y.mv ?_
    refine Dt.Y rfl wantN (Y.ixr Tryd.underlying22 Y3) ?_
    refine Dt.T rfl wantN (D.ld Tryd.underlying3) ?_
    refine Dt.Y rfl wantN Y.bin ?_
    refine Dt.Y rfl wantN (Y.ixr Tryd.underlying22 Y3) ?_
    refine Dt.T rfl wantN (D.ld Tryd.underlying3) ?_
    refine Dt.Y rfl wantN Y.bin ?_
    refine Dt.Y rfl wantN Y.asg ?_
    refine Dt.nil ?_
    obtain rfl := Option.some.inj h
    refine AWp.ret ?_
    exact ⟨.inr rfl, [(8, _)], _, ⟨rfl, rfl⟩, IsPart.at [] [] base0 .nil (E.c .nil)⟩

/-! ### spec_cfPair: function 114 -/
mutual
def spec_cfPair.l0 : Nat → List Int → Int → Int → Int → Option (Int × Int × Bool)
 | 0, _, _, _, _ => none
 | k + 1, x1, x2, x16, x17 => if x17 < x16 then (spec_cfPair.l1 k x1 x2 x17 x16 x17 (x1.length : Int) 0) else (some (0, 0, false))
def spec_cfPair.l1 : Nat → List Int → Int → Int → Int → Int → Int → Int → Option (Int × Int × Bool)
 | 0, _, _, _, _, _, _, _ => none
 | k + 1, x1, x2, x9, x16, x17, x21, x22 => if x22 < x21 then ((spec_cfFails.f x1 x9 x22 x2).bind fun t418 => (if t418 = true then (some (x9, x22, true)) else (spec_cfPair.l1 k x1 x2 x9 x16 x17 x21 (wrap64 (x22 + 1))))) else (spec_cfPair.l0 k x1 x2 x16 (wrap64 (x17 + 1)))
end
def spec_cfPair.f (k : Nat) (a0 : Int) (l1 : List Int) (a2 : Int) : Option (Int × Int × Bool) := (spec_cfGood.f k a0 l1).bind fun t417 => (if t417 = true then (spec_cfPair.l0 k l1 a2 (l1.length : Int) 0) else (some (0, 0, false)))
set_option maxRecDepth 100000 in
set_option maxHeartbeats 20000000 in
theorem spec_cfPair.ac (k : Nat) (a0 : Int) (l1 : List Int) (a2 : Int) (r1 : Int) (r2 : Int) (r3 : Bool) (h : spec_cfPair.f k a0 l1 a2 = some (r1, r2, r3)) :
  ACalls Tryd.prog 114 [.lit (.int .i64 a0), .row 1 l1.length false (ints .i64 l1), .lit (.int .i64 a2)] [] (fun v H' => v = .tup [.lit (.int .i64 r1), .lit (.int .i64 r2), .lit (.bool r3)] ∧ H' = []) := by
 refine ACalls.ofP [6, 7, 8] Tryd.func114 rfl (by exact Nat.le_of_ble_eq_true rfl) rfl (by decide) ?_
 simp only [Tryd.ntmps114, env0, spec_cfPair.f] at h ⊢
 refine AWp.seq ?_
 refine AWp.region ?_
 refine L.Y Y.asg ?_
 refine L.Y Y.asg ?_
 refine L.Y Y.asg ?_
 refine AList.nil ?_
 refine AWp.seq ?_
 refine AWp.seq ?_
 refine AWp.region ?_
 refine L.Y Y.mv ?_
 refine L.Y Y.mv ?_
 obtain ⟨t417, hc1, h⟩ := Option.bind_eq_some_iff.1 h
 refine L.C (C.callE (l := true) [] Tryd.func110 (spec_cfGood.ac _ _ _ _ hc1) .nil ?_)
 refine L.Y Y.nt ?_
 refine AList.nil ?_
 refine W.cond (fun hb => ?_) (fun hb => ?_)
 ·
  have hb2 := hb
  try simp only [hS, hE, ne_eq] at hb
  first | rw [if_pos hb2] at h | rw [if_neg (Bool.eq_false_iff.1 hb2)] at h | rw [if_pos hb] at h | rw [if_neg hb] at h | (simp only [hb, hT, reduceIte] at h) | skip
  refine AWp.seq ?_
  refine AWp.region ?_
  refine L.Y Y.asg ?_
  refine L.Y Y.asg ?_
  refine L.Y Y.asg ?_
  refine AList.nil ?_
  simp only [Option.some.injEq, Prod.mk.injEq] at h
  obtain ⟨rfl, rfl, rfl⟩ := h
  refine AWp.ret ?_
  exact ⟨.inr rfl, [(6, _), (7, _), (8, _)], _, ⟨rfl, rfl⟩, IsPart.at [] [] base0 .nil (E.c (E.c (E.c .nil)))⟩
 ·
  have hb2 := hb
  try simp only [hS, hE, ne_eq] at hb
  first | rw [if_pos hb2] at h | rw [if_neg (Bool.eq_false_iff.1 hb2)] at h | rw [if_pos hb] at h | rw [if_neg hb] at h | (simp only [hb, hT, reduceIte] at h) | skip
  refine AWp.skip ?_
  refine AWp.seq ?_
  refine AWp.seq ?_
  refine AWp.region ?_
  refine L.Y Y.mv ?_
  refine L.Y (Y.ln Tryd.underlying22) ?_
  refine L.Y Y.mv ?_
  refine AList.nil ?_
  refine AWp.block ?_
  refine AWp.loopI (fun kk e H => kk ≤ k ∧ ∃ (x2 : Int) (x16 : Int) (x17 : Int), e = [(1, .row 1 l1.length false (ints .i64 l1)), (2, .lit (.int .i64 x2)), (16, .lit (.int .i64 x16)), (17, .lit (.int .i64 x17))] ∧ H = [] ∧ spec_cfPair.l0 kk l1 x2 x16 x17 = some (r1, r2, r3)) (k := k)
   ⟨_, _, ⟨Nat.le_refl _, _, _, _, rfl, rfl, h⟩, IsPart.at [] [] base0 .nil (E.c (E.c (E.c (E.c .nil))))⟩ ?_
  clear h
  rintro k3 e H ⟨hk4, x2, x16, x17, rfl, rfl, h⟩
  cases k3 with
  | zero => exact absurd h (by simp [spec_cfPair.l0])
  | succ k3 =>
  simp only [spec_cfPair.l0] at h
  refine AWp.seq ?_
  refine AWp.region ?_
  refine L.Y Y.bin ?_
  refine AList.nil ?_
  refine AWp.seq ?_
  refine W.cond (fun hb => ?_) (fun hb => ?_)
  ·
   have hb5 := hb
   try simp only [hS, hE, ne_eq] at hb
   first | rw [if_pos hb5] at h | rw [if_neg (Bool.eq_false_iff.1 hb5)] at h | rw [if_pos hb] at h | rw [if_neg hb] at h | (simp only [hb, hT, reduceIte] at h) | skip
   refine AWp.skip ?_
   refine AWp.seq ?_
   refine AWp.block ?_
   refine AWp.seq ?_
   refine AWp.region ?_
   refine L.Y Y.mv ?_
   refine L.Y Y.asg ?_
   refine AList.nil ?_
   refine AWp.seq ?_
   refine AWp.region ?_
   refine L.Y Y.mv ?_
   refine L.Y (Y.ln Tryd.underlying22) ?_
   refine L.Y Y.mv ?_
   refine AList.nil ?_
   refine AWp.block ?_
   refine AWp.loopI (fun kk e H => kk ≤ k3 ∧ ∃ (x2 : Int) (x9 : Int) (x16 : Int) (x17 : Int) (x21 : Int) (x22 : Int), e = [(1, .row 1 l1.length false (ints .i64 l1)), (2, .lit (.int .i64 x2)), (9, .lit (.int .i64 x9)), (16, .lit (.int .i64 x16)), (17, .lit (.int .i64 x17)), (21, .lit (.int .i64 x21)), (22, .lit (.int .i64 x22))] ∧ H = [] ∧ spec_cfPair.l1 kk l1 x2 x9 x16 x17 x21 x22 = some (r1, r2, r3)) (k := k3)
    ⟨_, _, ⟨Nat.le_refl _, _, _, _, _, _, _, rfl, rfl, h⟩, IsPart.at [] [] base0 .nil (E.c (E.c (E.c (E.c (E.c (E.c (E.c .nil)))))))⟩ ?_
   clear h
   rintro k6 e H ⟨hk7, x2, x9, x16, x17, x21, x22, rfl, rfl, h⟩
   cases k6 with
   | zero => exact absurd h (by simp [spec_cfPair.l1])
   | succ k6 =>
   simp only [spec_cfPair.l1] at h
   refine AWp.seq ?_
   refine AWp.region ?_
   refine L.Y Y.bin ?_
   refine AList.nil ?_
   refine AWp.seq ?_
   refine W.cond (fun hb => ?_) (fun hb => ?_)
   ·
    have hb8 := hb
    try simp only [hS, hE, ne_eq] at hb
    first | rw [if_pos hb8] at h | rw [if_neg (Bool.eq_false_iff.1 hb8)] at h | rw [if_pos hb] at h | rw [if_neg hb] at h | (simp only [hb, hT, reduceIte] at h) | skip
    refine AWp.skip ?_
    refine AWp.seq ?_
    refine AWp.block ?_
    refine AWp.seq ?_
    refine AWp.region ?_
    refine L.Y Y.mv ?_
    refine L.Y Y.asg ?_
    refine AList.nil ?_
    refine AWp.seq ?_
    refine AWp.region ?_
    refine L.Y Y.mv ?_
    refine L.Y Y.mv ?_
    refine L.Y Y.mv ?_
    refine L.Y Y.mv ?_
    obtain ⟨t418, hc9, h⟩ := Option.bind_eq_some_iff.1 h
    refine L.C (C.callE (l := true) [] Tryd.func140 (spec_cfFails.ac _ _ _ _ _ hc9) .nil ?_)
    refine AList.nil ?_
    refine W.cond (fun hb => ?_) (fun hb => ?_)
    ·
     have hb10 := hb
     try simp only [hS, hE, ne_eq] at hb
     first | rw [if_pos hb10] at h | rw [if_neg (Bool.eq_false_iff.1 hb10)] at h | rw [if_pos hb] at h | rw [if_neg hb] at h | (simp only [hb, hT, reduceIte] at h) | skip
     refine AWp.seq ?_
     refine W.kp [1, 2, 9, 10, 16, 17, 21, 22, 23, 29] ?_
     refine AWp.region ?_
     refine L.Y Y.mv ?_
     refine L.Y Y.mv ?_
     refine L.Y Y.asg ?_
     refine L.Y Y.asg ?_
     refine L.Y Y.asg ?_
     refine AList.nil ?_
     simp only [Option.some.injEq, Prod.mk.injEq] at h
     obtain ⟨rfl, rfl, rfl⟩ := h
     refine AWp.ret ?_
     exact ⟨.inr rfl, [(6, _), (7, _), (8, _)], _, ⟨rfl, rfl⟩, IsPart.at [] [] base0 .nil (E.c (E.c (E.c .nil)))⟩
    ·
     have hb10 := hb
     try simp only [hS, hE, ne_eq] at hb
     first | rw [if_pos hb10] at h | rw [if_neg (Bool.eq_false_iff.1 hb10)] at h | rw [if_pos hb] at h | rw [if_neg hb] at h | (simp only [hb, hT, reduceIte] at h) | skip
     refine AWp.skip ?_
     refine W.kp [1, 2, 9, 10, 16, 17, 21, 22, 23, 29] ?_
     refine AWp.region ?_
     refine L.Y Y.bin ?_
     refine L.Y Y.mv ?_
     refine AList.nil ?_
     exact ⟨k6, by omega, _, _, ⟨by omega, _, _, _, _, _, _, rfl, rfl, h⟩, IsPart.at [] [] base0 .nil (E.c (E.c (E.c (E.c (E.c (E.c (E.c .nil)))))))⟩
   ·
    have hb8 := hb
    try simp only [hS, hE, ne_eq] at hb
    first | rw [if_pos hb8] at h | rw [if_neg (Bool.eq_false_iff.1 hb8)] at h | rw [if_pos hb] at h | rw [if_neg hb] at h | (simp only [hb, hT, reduceIte] at h) | skip
    refine AWp.exit ?_
    refine AWp.region ?_
    refine L.Y Y.bin ?_
    refine L.Y Y.mv ?_
    refine AList.nil ?_
    exact ⟨k6, by omega, _, _, ⟨by omega, _, _, _, rfl, rfl, h⟩, IsPart.at [] [] base0 .nil (E.c (E.c (E.c (E.c .nil))))⟩
  ·
   have hb5 := hb
   try simp only [hS, hE, ne_eq] at hb
   first | rw [if_pos hb5] at h | rw [if_neg (Bool.eq_false_iff.1 hb5)] at h | rw [if_pos hb] at h | rw [if_neg hb] at h | (simp only [hb, hT, reduceIte] at h) | skip
   refine AWp.exit ?_
   refine AWp.seq ?_
   refine AWp.region ?_
   refine L.Y Y.asg ?_
   refine L.Y Y.asg ?_
   refine L.Y Y.asg ?_
   refine AList.nil ?_
   simp only [Option.some.injEq, Prod.mk.injEq] at h
   obtain ⟨rfl, rfl, rfl⟩ := h
   refine AWp.ret ?_
   exact ⟨.inr rfl, [(6, _), (7, _), (8, _)], _, ⟨rfl, rfl⟩, IsPart.at [] [] base0 .nil (E.c (E.c (E.c .nil)))⟩

/-! ### spec_ShrinkFails: function 51 -/
def spec_ShrinkFails.f (k : Nat) (a0 : Int) (l1 : List Int) : Option (Int × Int × Bool) := (spec_cfPair.f k a0 l1 0).bind fun bt419 => (some (bt419.1, bt419.2.1, bt419.2.2))
set_option maxRecDepth 100000 in
set_option maxHeartbeats 20000000 in
theorem spec_ShrinkFails.ac (k : Nat) (a0 : Int) (l1 : List Int) (r1 : Int) (r2 : Int) (r3 : Bool) (h : spec_ShrinkFails.f k a0 l1 = some (r1, r2, r3)) :
  ACalls Tryd.prog 51 [.lit (.int .i64 a0), .row 1 l1.length false (ints .i64 l1)] [] (fun v H' => v = .tup [.lit (.int .i64 r1), .lit (.int .i64 r2), .lit (.bool r3)] ∧ H' = []) := by
 refine ACalls.ofP [4, 5, 6] Tryd.func51 rfl (by exact Nat.le_of_ble_eq_true rfl) rfl (by decide) ?_
 simp only [Tryd.ntmps51, env0, spec_ShrinkFails.f] at h ⊢
 refine AWp.seq ?_
 refine AWp.region ?_
 refine L.Y Y.asg ?_
 refine L.Y Y.asg ?_
 refine L.Y Y.asg ?_
 refine AList.nil ?_
 refine AWp.seq ?_
 refine AWp.region ?_
 refine L.Y Y.mv ?_
 refine L.Y Y.mv ?_
 obtain ⟨⟨t419, t420, t421⟩, hc1, h⟩ := Option.bind_eq_some_iff.1 h
 dsimp only at h
 refine L.C (C.callE (l := true) [] Tryd.func114 (spec_cfPair.ac _ _ _ _ _ _ _ hc1) .nil ?_)
 refine L.Y Y.ex ?_
 refine L.Y Y.ex ?_
 refine L.Y Y.ex ?_
 refine L.Y Y.asg ?_
 refine L.Y Y.asg ?_
 refine L.Y Y.asg ?_
 refine AList.nil ?_
 simp only [Option.some.injEq, Prod.mk.injEq] at h
 obtain ⟨rfl, rfl, rfl⟩ := h
 refine AWp.ret ?_
 exact ⟨.inr rfl, [(4, _), (5, _), (6, _)], _, ⟨rfl, rfl⟩, IsPart.at [] [] base0 .nil (E.c (E.c (E.c .nil)))⟩

/-! ### impl_GrowFails_1: function 115 -/
def impl_GrowFails_1.f (a0 : Int) (a1 : Int) (l2_0 : List Int) : Option (Bool) := if 0 ≤ a0 then (if a0 < (l2_0.length : Int) then (if 0 ≤ a1 then (if a1 < (l2_0.length : Int) then (if 0 ≤ (Go.bits .or .i64 a0 a1) then (if (Go.bits .or .i64 a0 a1) < (l2_0.length : Int) then (some ((Go.bits .andNot .i64 (Go.bits .and .i64 (rd l2_0 a0) (rd l2_0 a1)) (rd l2_0 (Go.bits .or .i64 a0 a1))) != 0)) else (none)) else (none)) else (none)) else (none)) else (none)) else (none)
set_option maxRecDepth 100000 in
set_option maxHeartbeats 20000000 in
theorem impl_GrowFails_1.ac (a0 : Int) (a1 : Int) (l2_0 : List Int) (r : Bool) (h : impl_GrowFails_1.f a0 a1 l2_0 = some r) :
  ACalls Tryd.prog 115 [.lit (.int .i64 a0), .lit (.int .i64 a1), .rptr [.row 1 l2_0.length false (ints .i64 l2_0)]] [] (fun v H' => v = .lit (.bool r) ∧ H' = []) := by
 refine ACalls.ofP [5] Tryd.func115 rfl (by exact Nat.le_of_ble_eq_true rfl) rfl (by decide) ?_
 simp only [Tryd.ntmps115, env0, impl_GrowFails_1.f] at h ⊢
 repeat (first | (rw [iN] at h; obtain ⟨_, h⟩ := h) | (rw [iP] at h; obtain ⟨_, h⟩ := h) | (simp only [bS] at h))
 refine AWp.seq ?_
 refine AWp.region ?_
 refine L.Y Y.asg ?_
 refine AList.nil ?_
 refine AWp.seq ?_
 refine Dt.reg [] [] (.t 0 (.y 1 (.y 2 (.t 3 (.t 4 (.y 5 (.y 6 (.t 7 (.y 8 (.t 9 (.y 10 (.y 11 (.y 12 (.y 13 (.t 14 (.y 15 (.y 16 (.y 17 .done)))))))))))))))))) HM ?_
 refine Dt.T rfl wantN (D.ld Tryd.underlying22) ?_
 refine Dt.Y rfl wantN Y.mv ?_
 refine Dt.Y rfl wantN (Y.ixr Tryd.underlying22 Y3) ?_
 refine Dt.T rfl wantN (D.ld Tryd.underlying3) ?_
 refine Dt.T rfl wantN (D.ld Tryd.underlying22) ?_
 refine Dt.Y rfl wantN Y.mv ?_
 refine Dt.Y rfl wantN (Y.ixr Tryd.underlying22 Y3) ?_
 refine Dt.T rfl wantN (D.ld Tryd.underlying3) ?_
 refine Dt.Y rfl wantN Y.bin ?_
 refine Dt.T rfl wantN (D.ld Tryd.underlying22) ?_
 refine Dt.Y rfl wantN Y.mv ?_
 refine Dt.Y rfl wantN Y.mv ?_
 refine Dt.Y rfl wantN Y.bin ?_
 refine Dt.Y rfl wantN (Y.ixr Tryd.underlying22 Y3) ?_
 refine Dt.T rfl wantN (D.ld Tryd.underlying3) ?_
 refine Dt.Y rfl wantN Y.bin ?_
 refine Dt.Y rfl wantN Y.bin ?_
 refine Dt.Y rfl wantN Y.asg ?_
 refine Dt.nil ?_
 obtain rfl := Option.some.inj h
 refine AWp.ret ?_
 exact ⟨.inr rfl, [(5, _)], _, ⟨rfl, rfl⟩, IsPart.at [] [] base0 .nil (E.c .nil)⟩

end Go.Proofs.YtpippjgphndjmaaDoor.PFnRationalTables
