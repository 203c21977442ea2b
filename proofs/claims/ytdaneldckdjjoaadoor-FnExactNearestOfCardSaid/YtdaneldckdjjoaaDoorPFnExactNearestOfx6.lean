-- Written by a program of this session's (wip/myprint2): the functions by the kit's print, the walks by awgen.py. Lean checks it.
import Derived.Test.YtdaneldckdjjoaaDoorPFnExactNearestOfx0
import Derived.Test.YtdaneldckdjjoaaDoorPFnExactNearestOfx5
namespace Go.Proofs.YtdaneldckdjjoaaDoor.PFnExactNearestOf
open Go.RowKit Go.Proofs.YtdaneldckdjjoaaDoorW.PrintWords Go.Proofs.YtdaneldckdjjoaaDoorW.PrintLast Go.Proofs.YtdaneldckdjjoaaDoorW.PrintMore Go.Proofs.YtdaneldckdjjoaaDoorM Go.Proofs.YtdaneldckdjjoaaDoorA Go.Proofs.YtdaneldckdjjoaaDoorT
attribute [local go_sem] max2_int min2_int max_two min_two max_three min_three max_four min_four   -- for this text's walks alone
set_option linter.unusedVariables false
set_option linter.unusedSimpArgs false

/-! ### impl_IsOrder: function 42 -/
mutual
def impl_IsOrder.l0 : Nat → List Int → Int → Int → Int → List Int → Option (Bool)
 | 0, _, _, _, _, _ => none
 | k + 1, x11, x12, x13, x278000, x278001 => if x13 < x12 then (if 0 ≤ x13 then (if x13 < (x11.length : Int) then ((impl_Order_better.f x278000 x278001 x13 x13).bind fun t280 => (if t280 = true then (some false) else ((impl_members.f k (rd x11 x13)).bind fun t281 => (impl_IsOrder.l1 k (rd x11 x13) x11 x12 x13 t281 (t281.length : Int) 0 x278000 x278001)))) else (none)) else (none)) else (some true)
def impl_IsOrder.l1 : Nat → Int → List Int → Int → Int → List Int → Int → Int → Int → List Int → Option (Bool)
 | 0, _, _, _, _, _, _, _, _, _ => none
 | k + 1, x4, x11, x12, x13, x23, x24, x25, x278000, x278001 => if x25 < x24 then (if 0 ≤ x25 then (if x25 < (x23.length : Int) then (if 0 ≤ (rd x23 x25) then (if (rd x23 x25) < (x278001.length : Int) then (if (Go.bits .andNot .i64 (rd x278001 (rd x23 x25)) x4) = 0 then (impl_IsOrder.l1 k x4 x11 x12 x13 x23 x24 (wrap64 (x25 + 1)) x278000 x278001) else (some false)) else (none)) else (none)) else (none)) else (none)) else (impl_IsOrder.l0 k x11 x12 (wrap64 (x13 + 1)) x278000 x278001)
end
def impl_IsOrder.f (k : Nat) (a0_0 : Int) (l0_1 : List Int) : Option (Bool) := (impl_IsRelation.f k a0_0 l0_1).bind fun t278 => (if t278 = true then (impl_IsOrder.l0 k l0_1 (l0_1.length : Int) 0 a0_0 l0_1) else (some false))
set_option maxRecDepth 100000 in
set_option maxHeartbeats 20000000 in
theorem impl_IsOrder.ac (k : Nat) (a0_0 : Int) (l0_1 : List Int) (r : Bool) (h : impl_IsOrder.f k a0_0 l0_1 = some r) :
  ACalls Tryd.prog 42 [.agg [.lit (.int .i64 a0_0), .row 1 l0_1.length false (ints .i64 l0_1)]] [] (fun v H' => v = .lit (.bool r) ∧ H' = []) := by
 refine ACalls.ofP [2] Tryd.func42 rfl (by exact Nat.le_of_ble_eq_true rfl) rfl (by decide) ?_
 simp only [Tryd.ntmps42, env0, impl_IsOrder.f] at h ⊢
 refine AWp.seq ?_
 refine AWp.region ?_
 refine L.M M.bx ?_
 refine L.Y Y.asg ?_
 refine AList.nil ?_
 refine AWp.seq ?_
 refine AWp.seq ?_
 refine AWp.region ?_
 refine L.S (S.ldN Tryd.underlying26 Y26) ?_
 replace h := Option.bind_eq_some_iff.1 h
 obtain ⟨t278, hc1, h⟩ := h
 refine L.C (C.callE (l := true) [] Tryd.func18 (impl_IsRelation.ac _ _ _ _ hc1) .nil ?_)
 refine L.Y Y.nt ?_
 refine AList.nil ?_
 refine W.cond (fun hb => ?_) (fun hb => ?_)
 ·
  have hb2 := hb
  try simp only [hS, hE, ne_eq] at hb
  first | rw [if_pos hb2] at h | rw [if_neg (Bool.eq_false_iff.1 hb2)] at h | rw [if_pos hb] at h | rw [if_neg hb] at h | (simp only [hb, hT, reduceIte] at h) | skip
  refine AWp.seq ?_
  refine AWp.region ?_
  refine L.Y Y.asg ?_
  refine AList.nil ?_
  obtain rfl := Option.some.inj h
  refine AWp.ret ?_
  exact ⟨.inr rfl, [(2, _)], _, ⟨rfl, rfl⟩, IsPart.at [] [] base0 .nil (E.c .nil)⟩
 ·
  have hb2 := hb
  try simp only [hS, hE, ne_eq] at hb
  first | rw [if_pos hb2] at h | rw [if_neg (Bool.eq_false_iff.1 hb2)] at h | rw [if_pos hb] at h | rw [if_neg hb] at h | (simp only [hb, hT, reduceIte] at h) | skip
  refine AWp.skip ?_
  refine AWp.seq ?_
  refine AWp.seq ?_
  refine AWp.region ?_
  refine L.Y (Y.fa (off := 1) Tryd.underlying26 Y22) ?_
  refine L.S (S.ld Tryd.underlying22) ?_
  refine L.Y (Y.ln Tryd.underlying22) ?_
  refine L.Y Y.mv ?_
  refine AList.nil ?_
  refine AWp.block ?_
  refine AWp.loopI (fun kk e H => kk ≤ k ∧ ∃ (x12 : Int) (x13 : Int) (x278000 : Int), e = [(1, .ptr 0 0), (11, .row 1 l0_1.length false (ints .i64 l0_1)), (12, .lit (.int .i64 x12)), (13, .lit (.int .i64 x13))] ∧ H = [.bx 26 [.lit (.int .i64 x278000), .row 1 l0_1.length false (ints .i64 l0_1)]] ∧ impl_IsOrder.l0 kk l0_1 x12 x13 x278000 l0_1 = some r) (k := k)
   ⟨_, _, ⟨Nat.le_refl _, _, _, _, rfl, rfl, h⟩, IsPart.at [] [0] base0 (H.c .nil) (E.c (E.c (E.c (E.c .nil))))⟩ ?_
  clear h
  rintro k3 e H ⟨hk4, x12, x13, x278000, rfl, rfl, h⟩
  cases k3 with
  | zero => exact absurd h (by simp [impl_IsOrder.l0])
  | succ k3 =>
  simp only [impl_IsOrder.l0] at h
  refine AWp.seq ?_
  refine AWp.region ?_
  refine L.Y Y.bin ?_
  refine AList.nil ?_
  refine AWp.seq ?_
  refine W.cond (fun hb => ?_) (fun hb => ?_)
  ·
   have hb5 := hb
   try simp only [hS, hE, ne_eq] at hb
   first | rw [if_pos hb5] at h | rw [if_neg (Bool.eq_false_iff.1 hb5)] at h | rw [if_pos hb] at h | rw [if_neg hb] at h | (simp only [hb, hT, reduceIte] at h) | skip
   repeat (first | (rw [iN] at h; obtain ⟨_, h⟩ := h) | (rw [iP] at h; obtain ⟨_, h⟩ := h) | (simp only [bS] at h))
   refine AWp.skip ?_
   refine AWp.seq ?_
   refine AWp.block ?_
   refine AWp.seq ?_
   refine AWp.region ?_
   refine L.Y Y.mv ?_
   refine L.Y (Y.ixr Tryd.underlying22 Y3) ?_
   refine L.S (S.ld Tryd.underlying3) ?_
   refine L.Y Y.asg ?_
   refine L.Y Y.asg ?_
   refine AList.nil ?_
   refine AWp.seq ?_
   refine AWp.seq ?_
   refine AWp.region ?_
   refine L.S (S.ldN Tryd.underlying26 Y26) ?_
   refine L.Y Y.mv ?_
   refine L.Y Y.mv ?_
   replace h := Option.bind_eq_some_iff.1 h
   obtain ⟨t280, hc6, h⟩ := h
   refine L.C (C.callE (l := true) [] Tryd.func50 (impl_Order_better.ac _ _ _ _ _ hc6) .nil ?_)
   refine AList.nil ?_
   refine W.cond (fun hb => ?_) (fun hb => ?_)
   ·
    have hb7 := hb
    try simp only [hS, hE, ne_eq] at hb
    first | rw [if_pos hb7] at h | rw [if_neg (Bool.eq_false_iff.1 hb7)] at h | rw [if_pos hb] at h | rw [if_neg hb] at h | (simp only [hb, hT, reduceIte] at h) | skip
    refine AWp.seq ?_
    refine W.kp [1, 3, 4, 11, 12, 13, 14, 21] ?_
    refine AWp.region ?_
    refine L.Y Y.asg ?_
    refine AList.nil ?_
    obtain rfl := Option.some.inj h
    refine AWp.ret ?_
    exact ⟨.inr rfl, [(2, _)], _, ⟨rfl, rfl⟩, IsPart.at [] [] base0 .nil (E.c .nil)⟩
   ·
    have hb7 := hb
    try simp only [hS, hE, ne_eq] at hb
    first | rw [if_pos hb7] at h | rw [if_neg (Bool.eq_false_iff.1 hb7)] at h | rw [if_pos hb] at h | rw [if_neg hb] at h | (simp only [hb, hT, reduceIte] at h) | skip
    refine AWp.skip ?_
    refine AWp.seq ?_
    refine W.kp [1, 3, 4, 11, 12, 13, 14, 21] ?_
    refine AWp.region ?_
    refine L.Y Y.mv ?_
    replace h := Option.bind_eq_some_iff.1 h
    obtain ⟨t281, hc8, h⟩ := h
    refine L.C (C.callE (l := true) [] Tryd.func51 (impl_members.ac _ _ _ hc8) .nil ?_)
    refine L.Y (Y.ln Tryd.underlying22) ?_
    refine L.Y Y.mv ?_
    refine AList.nil ?_
    refine AWp.block ?_
    refine AWp.loopI (fun kk e H => kk ≤ k3 ∧ ∃ (x4 : Int) (x12 : Int) (x13 : Int) (x23 : List Int) (x24 : Int) (x25 : Int) (x278000 : Int), e = [(1, .ptr 0 0), (4, .lit (.int .i64 x4)), (11, .row 1 l0_1.length false (ints .i64 l0_1)), (12, .lit (.int .i64 x12)), (13, .lit (.int .i64 x13)), (23, .own 1 x23.length), (24, .lit (.int .i64 x24)), (25, .lit (.int .i64 x25))] ∧ H = [.bx 26 [.lit (.int .i64 x278000), .row 1 l0_1.length false (ints .i64 l0_1)], .sl 3 1 x23.length false (ints .i64 x23)] ∧ impl_IsOrder.l1 kk x4 l0_1 x12 x13 x23 x24 x25 x278000 l0_1 = some r) (k := k3)
     ⟨_, _, ⟨Nat.le_refl _, _, _, _, _, _, _, _, rfl, rfl, h⟩, IsPart.at [] [0, 1] base0 (H.c (H.c .nil)) (E.c (E.c (E.c (E.c (E.c (E.c (E.c (E.c .nil))))))))⟩ ?_
    clear h
    rintro k9 e H ⟨hk10, x4, x12, x13, x23, x24, x25, x278000, rfl, rfl, h⟩
    cases k9 with
    | zero => exact absurd h (by simp [impl_IsOrder.l1])
    | succ k9 =>
    simp only [impl_IsOrder.l1] at h
    refine AWp.seq ?_
    refine AWp.region ?_
    refine L.Y Y.bin ?_
    refine AList.nil ?_
    refine AWp.seq ?_
    refine W.cond (fun hb => ?_) (fun hb => ?_)
    ·
     have hb11 := hb
     try simp only [hS, hE, ne_eq] at hb
     first | rw [if_pos hb11] at h | rw [if_neg (Bool.eq_false_iff.1 hb11)] at h | rw [if_pos hb] at h | rw [if_neg hb] at h | (simp only [hb, hT, reduceIte] at h) | skip
     repeat (first | (rw [iN] at h; obtain ⟨_, h⟩ := h) | (rw [iP] at h; obtain ⟨_, h⟩ := h) | (simp only [bS] at h))
     refine AWp.skip ?_
     refine AWp.seq ?_
     refine AWp.block ?_
     refine AWp.seq ?_
     refine AWp.region ?_
     refine L.Y (Y.ixo Tryd.underlying22 Y3) ?_
     refine L.S (S.ld Tryd.underlying3) ?_
     refine L.Y Y.asg ?_
     refine AList.nil ?_
     refine AWp.seq ?_
     refine AWp.region ?_
     refine L.Y (Y.fa (off := 1) Tryd.underlying26 Y22) ?_
     refine L.S (S.ld Tryd.underlying22) ?_
     refine L.Y Y.mv ?_
     refine L.Y (Y.ixr Tryd.underlying22 Y3) ?_
     refine L.S (S.ld Tryd.underlying3) ?_
     refine L.Y Y.mv ?_
     refine L.Y Y.bin ?_
     refine L.Y Y.bin ?_
     refine AList.nil ?_
     refine W.cond (fun hb => ?_) (fun hb => ?_)
     ·
      have hb12 := hb
      try simp only [hS, hE, ne_eq] at hb
      first | rw [if_pos hb12] at h | rw [if_neg (Bool.eq_false_iff.1 hb12)] at h | rw [if_pos hb] at h | rw [if_neg hb] at h | (simp only [hb, hT, reduceIte] at h) | skip
      refine AWp.seq ?_
      refine W.kp [1, 4, 6, 11, 12, 13, 23, 24, 25, 26, 36] ?_
      refine AWp.region ?_
      refine L.Y Y.asg ?_
      refine AList.nil ?_
      obtain rfl := Option.some.inj h
      refine AWp.ret ?_
      exact ⟨.inr rfl, [(2, _)], _, ⟨rfl, rfl⟩, IsPart.at [] [] base0 .nil (E.c .nil)⟩
     ·
      have hb12 := hb
      try simp only [hS, hE, ne_eq] at hb
      first | rw [if_pos hb12] at h | rw [if_neg (Bool.eq_false_iff.1 hb12)] at h | rw [if_pos hb] at h | rw [if_neg hb] at h | (simp only [hb, hT, reduceIte] at h) | skip
      refine AWp.skip ?_
      refine W.kp [1, 4, 6, 11, 12, 13, 23, 24, 25, 26, 36] ?_
      refine AWp.region ?_
      refine L.Y Y.bin ?_
      refine L.Y Y.mv ?_
      refine AList.nil ?_
      exact ⟨k9, by omega, _, _, ⟨by omega, _, _, _, _, _, _, _, rfl, rfl, h⟩, IsPart.at [] [0, 1] base0 (H.c (H.c .nil)) (E.c (E.c (E.c (E.c (E.c (E.c (E.c (E.c .nil))))))))⟩
    ·
     have hb11 := hb
     try simp only [hS, hE, ne_eq] at hb
     first | rw [if_pos hb11] at h | rw [if_neg (Bool.eq_false_iff.1 hb11)] at h | rw [if_pos hb] at h | rw [if_neg hb] at h | (simp only [hb, hT, reduceIte] at h) | skip
     refine AWp.exit ?_
     refine AWp.region ?_
     refine L.Y Y.bin ?_
     refine L.Y Y.mv ?_
     refine AList.nil ?_
     exact ⟨k9, by omega, _, _, ⟨by omega, _, _, _, rfl, rfl, h⟩, IsPart.at [] [0] base0 (H.c .nil) (E.c (E.c (E.c (E.c .nil))))⟩
  ·
   have hb5 := hb
   try simp only [hS, hE, ne_eq] at hb
   first | rw [if_pos hb5] at h | rw [if_neg (Bool.eq_false_iff.1 hb5)] at h | rw [if_pos hb] at h | rw [if_neg hb] at h | (simp only [hb, hT, reduceIte] at h) | skip
   refine AWp.exit ?_
   refine AWp.seq ?_
   refine AWp.region ?_
   refine L.Y Y.asg ?_
   refine AList.nil ?_
   obtain rfl := Option.some.inj h
   refine AWp.ret ?_
   exact ⟨.inr rfl, [(2, _)], _, ⟨rfl, rfl⟩, IsPart.at [] [] base0 .nil (E.c .nil)⟩

/-! ### impl_relation: function 64 -/
mutual
def impl_relation.l0 : Nat → Int → (Int → Int → Option Bool) → Int → Int → Int → List Int → Option (Int × List Int)
 | 0, _, _, _, _, _, _ => none
 | k + 1, x0, x1, x12, x13, x291000, x291001 => if x13 < x12 then (impl_relation.l1 k x0 x1 x13 x12 x13 x0 0 x291000 x291001) else (some (x291000, x291001))
def impl_relation.l1 : Nat → Int → (Int → Int → Option Bool) → Int → Int → Int → Int → Int → Int → List Int → Option (Int × List Int)
 | 0, _, _, _, _, _, _, _, _, _ => none
 | k + 1, x0, x1, x6, x12, x13, x16, x17, x291000, x291001 => if x17 < x16 then ((x1 x6 x17).bind fun t291 => (if t291 = true then (if 0 ≤ x6 then (if x6 < (x291001.length : Int) then (if 0 ≤ x17 then (impl_relation.l1 k x0 x1 x6 x12 x13 x16 (wrap64 (x17 + 1)) x291000 (x291001.set (x6 : Int).toNat (Go.bits .or .i64 (rd x291001 x6) (shl .i64 1 x17)))) else (none)) else (none)) else (none)) else (impl_relation.l1 k x0 x1 x6 x12 x13 x16 (wrap64 (x17 + 1)) x291000 x291001))) else (impl_relation.l0 k x0 x1 x12 (wrap64 (x13 + 1)) x291000 x291001)
end
def impl_relation.f (k : Nat) (a0 : Int) (a1 : (Int → Int → Option Bool)) : Option (Int × List Int) := if 0 ≤ a0 then (if (a0 : Int).toNat ≤ 35184372088832 then (impl_relation.l0 k a0 a1 a0 0 a0 (List.replicate (a0 : Int).toNat 0)) else (none)) else (none)
set_option maxRecDepth 100000 in
set_option maxHeartbeats 20000000 in
theorem impl_relation.ac (k : Nat) (a0 : Int) (a1 : Int → Int → Option Bool) (r1 : Int) (r2 : List Int) (h : impl_relation.f k a0 a1 = some (r1, r2)) (F1 : FuncId) (cs1 : List AV) (hF1 : FnOk Tryd.prog F1) (hnf1 : noids cs1 = true) (hcf1 : ∀ x_ y_ r_, a1 x_ y_ = some r_ → ACalls Tryd.prog F1 (.lit (.int .i64 x_) :: .lit (.int .i64 y_) :: cs1) [] (fun v H' => v = .lit (.bool r_) ∧ H' = [])) :
  ACalls Tryd.prog 64 [.lit (.int .i64 a0), .fn F1 cs1] [] (fun v H' => v = .agg [.lit (.int .i64 r1), .own 0 r2.length] ∧ H' = [.sl 3 1 r2.length false (ints .i64 r2)]) := by
 obtain ⟨fn1, hff1, hnm1, hbd1⟩ := id hF1
 refine ACalls.ofV Tryd.func64 rfl (by exact Nat.le_of_ble_eq_true rfl) ?_
 simp only [Tryd.ntmps64, env0, impl_relation.f] at h ⊢
 repeat (first | (rw [iN] at h; obtain ⟨_, h⟩ := h) | (rw [iP] at h; obtain ⟨_, h⟩ := h) | (simp only [bS] at h))
 refine AWp.seq ?_
 refine AWp.region ?_
 refine L.M (M.al Y26) ?_
 refine AList.nil ?_
 refine AWp.seq ?_
 refine AWp.region ?_
 refine L.Y Y.mv ?_
 refine L.Y Y.mv ?_
 refine L.M (M.mk Tryd.underlying22 Y3) ?_
 refine L.Y (Y.bd Tryd.underlying26 Y26 P26) ?_
 refine L.M (M.al Y26) ?_
 refine L.S (S.stb Y26) ?_
 refine AList.nil ?_
 refine AWp.seq ?_
 refine AWp.seq ?_
 refine W.kp [0, 1, 4, 5] ?_
 refine AWp.region ?_
 refine L.Y Y.mv ?_
 refine L.Y Y.mv ?_
 refine AList.nil ?_
 refine AWp.block ?_
 refine AWp.loopI (fun kk e H => kk ≤ k ∧ ∃ (x0 : Int) (x12 : Int) (x13 : Int) (x287000 : Int) (x291000 : Int) (x291001 : List Int), e = [(0, .lit (.int .i64 x0)), (1, .fn F1 cs1), (4, .ptr 0 0), (5, .ptr 1 0), (12, .lit (.int .i64 x12)), (13, .lit (.int .i64 x13))] ∧ H = [.bx 26 [.lit (.int .i64 x287000), .lit (.slice none 0 0)], .bx 26 [.lit (.int .i64 x291000), .own 2 x291001.length], .sl 3 1 x291001.length true (ints .i64 x291001)] ∧ impl_relation.l0 kk x0 a1 x12 x13 x291000 x291001 = some (r1, r2)) (k := k)
  ⟨_, _, ⟨Nat.le_refl _, _, _, _, _, _, _, rfl, rfl, h⟩, IsPart.at [] [0, 2, 1] base0 (H.c (H.c (H.c .nil))) (E.c (E.c (E.c (E.c (E.c (E.c .nil))))))⟩ ?_
 clear h
 rintro k1 e H ⟨hk2, x0, x12, x13, x287000, x291000, x291001, rfl, rfl, h⟩
 cases k1 with
 | zero => exact absurd h (by simp [impl_relation.l0])
 | succ k1 =>
 simp only [impl_relation.l0] at h
 refine AWp.seq ?_
 refine AWp.region ?_
 refine L.Y Y.bin ?_
 refine AList.nil ?_
 refine AWp.seq ?_
 refine W.cond (fun hb => ?_) (fun hb => ?_)
 ·
  have hb3 := hb
  try simp only [hS, hE, ne_eq] at hb
  first | rw [if_pos hb3] at h | rw [if_neg (Bool.eq_false_iff.1 hb3)] at h | rw [if_pos hb] at h | rw [if_neg hb] at h | (simp only [hb, hT, reduceIte] at h) | skip
  refine AWp.skip ?_
  refine AWp.seq ?_
  refine AWp.block ?_
  refine AWp.seq ?_
  refine AWp.region ?_
  refine L.Y Y.mv ?_
  refine L.Y Y.asg ?_
  refine AList.nil ?_
  refine AWp.seq ?_
  refine AWp.region ?_
  refine L.Y Y.mv ?_
  refine L.Y Y.mv ?_
  refine AList.nil ?_
  refine AWp.block ?_
  refine AWp.loopI (fun kk e H => kk ≤ k1 ∧ ∃ (x0 : Int) (x6 : Int) (x12 : Int) (x13 : Int) (x16 : Int) (x17 : Int) (x287000 : Int) (x291000 : Int) (x291001 : List Int), e = [(0, .lit (.int .i64 x0)), (1, .fn F1 cs1), (4, .ptr 0 0), (5, .ptr 1 0), (6, .lit (.int .i64 x6)), (12, .lit (.int .i64 x12)), (13, .lit (.int .i64 x13)), (16, .lit (.int .i64 x16)), (17, .lit (.int .i64 x17))] ∧ H = [.bx 26 [.lit (.int .i64 x287000), .lit (.slice none 0 0)], .bx 26 [.lit (.int .i64 x291000), .own 2 x291001.length], .sl 3 1 x291001.length true (ints .i64 x291001)] ∧ impl_relation.l1 kk x0 a1 x6 x12 x13 x16 x17 x291000 x291001 = some (r1, r2)) (k := k1)
   ⟨_, _, ⟨Nat.le_refl _, _, _, _, _, _, _, _, _, _, rfl, rfl, h⟩, IsPart.at [] [0, 1, 2] base0 (H.c (H.c (H.c .nil))) (E.c (E.c (E.c (E.c (E.c (E.c (E.c (E.c (E.c .nil)))))))))⟩ ?_
  clear h
  rintro k4 e H ⟨hk5, x0, x6, x12, x13, x16, x17, x287000, x291000, x291001, rfl, rfl, h⟩
  cases k4 with
  | zero => exact absurd h (by simp [impl_relation.l1])
  | succ k4 =>
  simp only [impl_relation.l1] at h
  refine AWp.seq ?_
  refine AWp.region ?_
  refine L.Y Y.bin ?_
  refine AList.nil ?_
  refine AWp.seq ?_
  refine W.cond (fun hb => ?_) (fun hb => ?_)
  ·
   have hb6 := hb
   try simp only [hS, hE, ne_eq] at hb
   first | rw [if_pos hb6] at h | rw [if_neg (Bool.eq_false_iff.1 hb6)] at h | rw [if_pos hb] at h | rw [if_neg hb] at h | (simp only [hb, hT, reduceIte] at h) | skip
   refine AWp.skip ?_
   refine AWp.seq ?_
   refine AWp.block ?_
   refine AWp.seq ?_
   refine AWp.region ?_
   refine L.Y Y.mv ?_
   refine L.Y Y.asg ?_
   refine AList.nil ?_
   refine AWp.seq ?_
   refine AWp.region ?_
   refine L.Y Y.mv ?_
   refine L.Y Y.mv ?_
   refine L.Y Y.mv ?_
   replace h := Option.bind_eq_some_iff.1 h
   obtain ⟨t291, hc7, h⟩ := h
   refine L.C (C.callE (l := true) [] hff1 (hcf1 _ _ _ hc7) .nil ?_ (hname := hnm1) (hb := hbd1))
   refine AList.nil ?_
   refine W.cond (fun hb => ?_) (fun hb => ?_)
   ·
    have hb8 := hb
    try simp only [hS, hE, ne_eq] at hb
    first | rw [if_pos hb8] at h | rw [if_neg (Bool.eq_false_iff.1 hb8)] at h | rw [if_pos hb] at h | rw [if_neg hb] at h | (simp only [hb, hT, reduceIte] at h) | skip
    repeat (first | (rw [iN] at h; obtain ⟨_, h⟩ := h) | (rw [iP] at h; obtain ⟨_, h⟩ := h) | (simp only [bS] at h))
    refine W.kp [0, 1, 4, 5, 6, 7, 12, 13, 16, 17, 18, 23] ?_
    refine Dt.reg [] [9] (.y 0 (.t 1 (.y 2 (.y 3 (.t 4 (.y 5 (.y 6 (.y 7 (.y 8 (.last 9 .done)))))))))) HM ?_
    refine Dt.Y rfl wantN (Y.fa (off := 1) Tryd.underlying26 Y22) ?_
    refine Dt.T rfl wantN (D.ld Tryd.underlying22) ?_
    refine Dt.Y rfl wantN Y.mv ?_
    refine Dt.Y rfl wantN (Y.ixo Tryd.underlying22 Y3) ?_
    refine Dt.T rfl wantN (D.ld Tryd.underlying3) ?_
    refine Dt.Y rfl wantN Y.mv ?_
    refine Dt.Y rfl wantN Y.bin ?_
    refine Dt.Y rfl wantN Y.bin ?_
    refine Dt.Y rfl wantN (Y.ixo Tryd.underlying22 Y3) ?_
    refine Dt.L rfl wantN ?_
    refine Op.S (S.sts Y3) ?_
    refine Du.nil ?_
    refine W.kp [0, 1, 4, 5, 6, 7, 12, 13, 16, 17, 18, 23] ?_
    refine AWp.region ?_
    refine L.Y Y.bin ?_
    refine L.Y Y.mv ?_
    refine AList.nil ?_
    exact ⟨k4, by omega, _, _, ⟨by omega, _, _, _, _, _, _, _, _, _, rfl, rfl, h⟩, IsPart.at [] [0, 1, 2] base0 (H.c (H.c (H.c .nil))) (E.c (E.c (E.c (E.c (E.c (E.c (E.c (E.c (E.c .nil)))))))))⟩
   ·
    have hb8 := hb
    try simp only [hS, hE, ne_eq] at hb
    first | rw [if_pos hb8] at h | rw [if_neg (Bool.eq_false_iff.1 hb8)] at h | rw [if_pos hb] at h | rw [if_neg hb] at h | (simp only [hb, hT, reduceIte] at h) | skip
    refine AWp.skip ?_
    refine W.kp [0, 1, 4, 5, 6, 7, 12, 13, 16, 17, 18, 23] ?_
    refine AWp.region ?_
    refine L.Y Y.bin ?_
    refine L.Y Y.mv ?_
    refine AList.nil ?_
    exact ⟨k4, by omega, _, _, ⟨by omega, _, _, _, _, _, _, _, _, _, rfl, rfl, h⟩, IsPart.at [] [0, 1, 2] base0 (H.c (H.c (H.c .nil))) (E.c (E.c (E.c (E.c (E.c (E.c (E.c (E.c (E.c .nil)))))))))⟩
  ·
   have hb6 := hb
   try simp only [hS, hE, ne_eq] at hb
   first | rw [if_pos hb6] at h | rw [if_neg (Bool.eq_false_iff.1 hb6)] at h | rw [if_pos hb] at h | rw [if_neg hb] at h | (simp only [hb, hT, reduceIte] at h) | skip
   refine AWp.exit ?_
   refine AWp.region ?_
   refine L.Y Y.bin ?_
   refine L.Y Y.mv ?_
   refine AList.nil ?_
   exact ⟨k4, by omega, _, _, ⟨by omega, _, _, _, _, _, _, rfl, rfl, h⟩, IsPart.at [] [0, 1, 2] base0 (H.c (H.c (H.c .nil))) (E.c (E.c (E.c (E.c (E.c (E.c .nil))))))⟩
 ·
  have hb3 := hb
  try simp only [hS, hE, ne_eq] at hb
  first | rw [if_pos hb3] at h | rw [if_neg (Bool.eq_false_iff.1 hb3)] at h | rw [if_pos hb] at h | rw [if_neg hb] at h | (simp only [hb, hT, reduceIte] at h) | skip
  refine AWp.exit ?_
  refine AWp.seq ?_
  refine AWp.region ?_
  refine L.S (S.ldN Tryd.underlying26 Y26) ?_
  refine L.S (S.stb Y26) ?_
  refine AList.nil ?_
  simp only [Option.some.injEq, Prod.mk.injEq] at h
  obtain ⟨rfl, rfl⟩ := h
  refine AWp.ret ?_
  exact ⟨.inr rfl, _, _, _, Res.cl Tryd.underlying26 Y26, ⟨rfl, rfl⟩, PartV.at [] [2] base0 (H.c .nil)⟩

/-! ### impl_Order_mirror_1: function 65 -/
def impl_Order_mirror_1.f (a0 : Int) (a1 : Int) (a2_0 : Int) (l2_1 : List Int) : Option (Bool) := (impl_Order_better.f a2_0 l2_1 a1 a0).bind fun t294 => (some t294)
set_option maxRecDepth 100000 in
set_option maxHeartbeats 20000000 in
theorem impl_Order_mirror_1.ac (a0 : Int) (a1 : Int) (a2_0 : Int) (l2_1 : List Int) (r : Bool) (h : impl_Order_mirror_1.f a0 a1 a2_0 l2_1 = some r) :
  ACalls Tryd.prog 65 [.lit (.int .i64 a0), .lit (.int .i64 a1), .rptr [.lit (.int .i64 a2_0), .row 1 l2_1.length false (ints .i64 l2_1)]] [] (fun v H' => v = .lit (.bool r) ∧ H' = []) := by
 refine ACalls.ofP [5] Tryd.func65 rfl (by exact Nat.le_of_ble_eq_true rfl) rfl (by decide) ?_
 simp only [Tryd.ntmps65, env0, impl_Order_mirror_1.f] at h ⊢
 refine AWp.seq ?_
 refine AWp.region ?_
 refine L.Y Y.asg ?_
 refine AList.nil ?_
 refine AWp.seq ?_
 refine AWp.region ?_
 refine L.S (S.ldN Tryd.underlying26 Y26) ?_
 refine L.Y Y.mv ?_
 refine L.Y Y.mv ?_
 replace h := Option.bind_eq_some_iff.1 h
 obtain ⟨t294, hc1, h⟩ := h
 refine L.C (C.callE (l := true) [] Tryd.func50 (impl_Order_better.ac _ _ _ _ _ hc1) .nil ?_)
 refine L.Y Y.asg ?_
 refine AList.nil ?_
 obtain rfl := Option.some.inj h
 refine AWp.ret ?_
 exact ⟨.inr rfl, [(5, _)], _, ⟨rfl, rfl⟩, IsPart.at [] [] base0 .nil (E.c .nil)⟩

/-! ### impl_Order_mirror: function 59 -/
def impl_Order_mirror.f (k : Nat) (a0_0 : Int) (l0_1 : List Int) : Option (Int × List Int) := (impl_relation.f k a0_0 (fun z0_ z1_ => impl_Order_mirror_1.f z0_ z1_ a0_0 l0_1)).bind fun bt297 => (some (bt297.1, bt297.2))
set_option maxRecDepth 100000 in
set_option maxHeartbeats 20000000 in
theorem impl_Order_mirror.ac (k : Nat) (a0_0 : Int) (l0_1 : List Int) (r1 : Int) (r2 : List Int) (h : impl_Order_mirror.f k a0_0 l0_1 = some (r1, r2)) :
  ACalls Tryd.prog 59 [.agg [.lit (.int .i64 a0_0), .row 1 l0_1.length false (ints .i64 l0_1)]] [] (fun v H' => v = .agg [.lit (.int .i64 r1), .own 0 r2.length] ∧ H' = [.sl 3 1 r2.length false (ints .i64 r2)]) := by
 refine ACalls.ofV Tryd.func59 rfl (by exact Nat.le_of_ble_eq_true rfl) ?_
 simp only [Tryd.ntmps59, env0, impl_Order_mirror.f] at h ⊢
 refine AWp.seq ?_
 refine AWp.region ?_
 refine L.M M.bx ?_
 refine L.M (M.al Y26) ?_
 refine AList.nil ?_
 refine AWp.seq ?_
 refine AWp.region ?_
 refine L.Y (Y.fa (off := 0) Tryd.underlying26 Y3) ?_
 refine L.S (S.ld Tryd.underlying3) ?_
 refine L.Y Y.fn ?_
 replace h := Option.bind_eq_some_iff.1 h
 obtain ⟨⟨t297, t298⟩, hc1, h⟩ := h
 dsimp only at h
 refine L.C (C.callE (l := true) [] Tryd.func64 (impl_relation.ac _ _ _ _ _ hc1 65 _ (FnOk.at_ Tryd.func65) (by simp [noids, noid, noids_ints]) (fun x_ y_ r_ h_ => impl_Order_mirror_1.ac x_ y_ _ _ r_ h_)) .nil ?_)
 refine L.S (S.stb Y26) ?_
 refine AList.nil ?_
 simp only [Option.some.injEq, Prod.mk.injEq] at h
 obtain ⟨rfl, rfl⟩ := h
 refine AWp.ret ?_
 exact ⟨.inr rfl, _, _, _, Res.cl Tryd.underlying26 Y26, ⟨rfl, rfl⟩, PartV.at [] [2] base0 (H.c .nil)⟩

/-! ### impl_Order_all: function 60 -/
def impl_Order_all.f (a0_0 : Int) (l0_1 : List Int) : Option (Int) := if 0 ≤ a0_0 then (some (wrap64 ((shl .i64 1 a0_0) - 1))) else (none)
set_option maxRecDepth 100000 in
set_option maxHeartbeats 20000000 in
theorem impl_Order_all.ac (a0_0 : Int) (l0_1 : List Int) (r : Int) (h : impl_Order_all.f a0_0 l0_1 = some r) :
  ACalls Tryd.prog 60 [.agg [.lit (.int .i64 a0_0), .row 1 l0_1.length false (ints .i64 l0_1)]] [] (fun v H' => v = .lit (.int .i64 r) ∧ H' = []) := by
 refine ACalls.ofP [2] Tryd.func60 rfl (by exact Nat.le_of_ble_eq_true rfl) rfl (by decide) ?_
 simp only [Tryd.ntmps60, env0, impl_Order_all.f] at h ⊢
 repeat (first | (rw [iN] at h; obtain ⟨_, h⟩ := h) | (rw [iP] at h; obtain ⟨_, h⟩ := h) | (simp only [bS] at h))
 refine AWp.seq ?_
 refine AWp.region ?_
 refine L.M M.bx ?_
 refine L.Y Y.asg ?_
 refine AList.nil ?_
 refine AWp.seq ?_
 refine AWp.region ?_
 refine L.Y (Y.fa (off := 0) Tryd.underlying26 Y3) ?_
 refine L.S (S.ld Tryd.underlying3) ?_
 refine L.Y Y.bin ?_
 refine L.Y Y.bin ?_
 refine L.Y Y.asg ?_
 refine AList.nil ?_
 obtain rfl := Option.some.inj h
 refine AWp.ret ?_
 exact ⟨.inr rfl, [(2, _)], _, ⟨rfl, rfl⟩, IsPart.at [] [] base0 .nil (E.c .nil)⟩

/-! ### impl_Order_indifferent: function 52 -/
def impl_Order_indifferent.l0 : Nat → List Int → Int → Int → Int → List Int → Int → List Int → Option (List Int)
 | 0, _, _, _, _, _, _, _ => none
 | k + 1, x3, x10, x11, x303000, x303001, x311000, x311001 => if x11 < x10 then ((impl_Order_all.f x303000 x303001).bind fun t311 => (if 0 ≤ x11 then (if x11 < (x303001.length : Int) then (if x11 < (x311001.length : Int) then (if x3.length < 17592186044416 then (impl_Order_indifferent.l0 k (x3 ++ [Go.bits .andNot .i64 (Go.bits .andNot .i64 (Go.bits .andNot .i64 t311 (rd x303001 x11)) (rd x311001 x11)) (shl .i64 1 x11)]) x10 (wrap64 (x11 + 1)) x303000 x303001 x311000 x311001) else (none)) else (none)) else (none)) else (none))) else (some x3)
def impl_Order_indifferent.f (k : Nat) (a0_0 : Int) (l0_1 : List Int) : Option (List Int) := (impl_Order_mirror.f k a0_0 l0_1).bind fun bt306 => (impl_Order_indifferent.l0 k (([] : List Int)) a0_0 0 a0_0 l0_1 bt306.1 bt306.2)
set_option maxRecDepth 100000 in
set_option maxHeartbeats 20000000 in
theorem impl_Order_indifferent.ac (k : Nat) (a0_0 : Int) (l0_1 : List Int) (r : List Int) (h : impl_Order_indifferent.f k a0_0 l0_1 = some r) :
  ACalls Tryd.prog 52 [.agg [.lit (.int .i64 a0_0), .row 1 l0_1.length false (ints .i64 l0_1)]] [] (fun v H' => v = .own 0 r.length ∧ H' = [.sl 3 1 r.length false (ints .i64 r)]) := by
 refine ACalls.ofP [2] Tryd.func52 rfl (by exact Nat.le_of_ble_eq_true rfl) rfl (by decide) ?_
 simp only [Tryd.ntmps52, env0, impl_Order_indifferent.f] at h ⊢
 repeat (first | (rw [iN] at h; obtain ⟨_, h⟩ := h) | (rw [iP] at h; obtain ⟨_, h⟩ := h) | (simp only [bS] at h))
 refine AWp.seq ?_
 refine AWp.region ?_
 refine L.M M.bx ?_
 refine L.Y Y.asg ?_
 refine AList.nil ?_
 refine AWp.seq ?_
 refine AWp.region ?_
 refine L.M (M.bs Tryd.underlying22 Y3) ?_
 refine L.S (S.ldN Tryd.underlying26 Y26) ?_
 replace h := Option.bind_eq_some_iff.1 h
 obtain ⟨⟨t306, t307⟩, hc1, h⟩ := h
 dsimp only at h
 refine L.C (C.callE (l := true) [] Tryd.func59 (impl_Order_mirror.ac _ _ _ _ _ hc1) .nil ?_)
 refine L.M (M.al Y26) ?_
 refine L.Y Y.asg ?_
 refine L.S (S.stb Y26) ?_
 refine AList.nil ?_
 refine AWp.seq ?_
 refine AWp.seq ?_
 refine AWp.region ?_
 refine L.Y (Y.fa (off := 0) Tryd.underlying26 Y3) ?_
 refine L.S (S.ld Tryd.underlying3) ?_
 refine L.Y Y.mv ?_
 refine AList.nil ?_
 refine AWp.block ?_
 refine AWp.loopI (fun kk e H => kk ≤ k ∧ ∃ (x3 : List Int) (x10 : Int) (x11 : Int) (x303000 : Int) (x311000 : Int) (x311001 : List Int), e = [(1, .ptr 0 0), (2, .lit (.slice none 0 0)), (3, .own 1 x3.length), (4, .ptr 2 0), (10, .lit (.int .i64 x10)), (11, .lit (.int .i64 x11))] ∧ H = [.bx 26 [.lit (.int .i64 x303000), .row 1 l0_1.length false (ints .i64 l0_1)], .sl 3 1 x3.length true (ints .i64 x3), .bx 26 [.lit (.int .i64 x311000), .own 3 x311001.length], .sl 3 1 x311001.length false (ints .i64 x311001)] ∧ impl_Order_indifferent.l0 kk x3 x10 x11 x303000 l0_1 x311000 x311001 = some r) (k := k)
  ⟨_, _, ⟨Nat.le_refl _, _, _, _, _, _, _, rfl, rfl, h⟩, IsPart.at [] [0, 1, 3, 2] base0 (H.c (H.c (H.c (H.c .nil)))) (E.c (E.c (E.c (E.c (E.c (E.c .nil))))))⟩ ?_
 clear h
 rintro k2 e H ⟨hk3, x3, x10, x11, x303000, x311000, x311001, rfl, rfl, h⟩
 cases k2 with
 | zero => exact absurd h (by simp [impl_Order_indifferent.l0])
 | succ k2 =>
 simp only [impl_Order_indifferent.l0] at h
 refine AWp.seq ?_
 refine AWp.region ?_
 refine L.Y Y.bin ?_
 refine AList.nil ?_
 refine AWp.seq ?_
 refine W.cond (fun hb => ?_) (fun hb => ?_)
 ·
  have hb4 := hb
  try simp only [hS, hE, ne_eq] at hb
  first | rw [if_pos hb4] at h | rw [if_neg (Bool.eq_false_iff.1 hb4)] at h | rw [if_pos hb] at h | rw [if_neg hb] at h | (simp only [hb, hT, reduceIte] at h) | skip
  refine AWp.skip ?_
  refine AWp.seq ?_
  refine AWp.block ?_
  refine AWp.seq ?_
  refine AWp.region ?_
  refine L.Y Y.mv ?_
  refine L.Y Y.asg ?_
  refine AList.nil ?_
  refine Dt.reg [] [19] (.y 0 (.t 1 (.y 3 (.t 4 (.y 5 (.y 6 (.t 7 (.y 9 (.t 10 (.y 11 (.y 12 (.t 13 (.y 15 (.y 16 (.one 2 (.y 8 (.y 14 (.y 17 (.one 18 (.last 19 (.y 20 .done))))))))))))))))))))) HM ?_
  refine Dt.Y rfl wantN Y.mv ?_
  refine Dt.T rfl wantN (D.ldN Tryd.underlying26 Y26) ?_
  refine Dt.Y rfl wantN (Y.fa (off := 1) Tryd.underlying26 Y22) ?_
  refine Dt.T rfl wantN (D.ld Tryd.underlying22) ?_
  refine Dt.Y rfl wantN Y.mv ?_
  replace h := Option.bind_eq_some_iff.1 h
  obtain ⟨t311, hc5, h⟩ := h
  repeat (first | (rw [iN] at h; obtain ⟨_, h⟩ := h) | (rw [iP] at h; obtain ⟨_, h⟩ := h) | (simp only [bS] at h))
  refine Dt.Y rfl wantN (Y.ixr Tryd.underlying22 Y3) ?_
  refine Dt.T rfl wantN (D.ld Tryd.underlying3) ?_
  refine Dt.Y rfl wantN (Y.fa (off := 1) Tryd.underlying26 Y22) ?_
  refine Dt.T rfl wantN (D.ld Tryd.underlying22) ?_
  refine Dt.Y rfl wantN Y.mv ?_
  refine Dt.Y rfl wantN (Y.ixo Tryd.underlying22 Y3) ?_
  refine Dt.T rfl wantN (D.ld Tryd.underlying3) ?_
  refine Dt.Y rfl wantN Y.mv ?_
  refine Dt.Y rfl wantN Y.bin ?_
  refine Dt.O (g' := false) rfl wantN ?_
  refine Ox.C true [] Tryd.func60 (impl_Order_all.ac _ _ _ hc5) .nil ?_
  refine Dt.Y rfl wantN Y.bin ?_
  refine Dt.Y rfl wantN Y.bin ?_
  refine Dt.Y rfl wantN Y.bin ?_
  refine Dt.O (g' := false) rfl wantN ?_
  refine Ox.M (M.bs Tryd.underlying22 Y3) ?_
  refine Dt.L rfl wantN ?_
  refine Op.S (S.ap (nn' := true) Tryd.underlying22 Y3) ?_
  refine Du.Y rfl wantN Y.asg ?_
  refine Du.nil ?_
  refine W.kp [1, 2, 3, 4, 5, 10, 11, 12] ?_
  refine AWp.region ?_
  refine L.Y Y.bin ?_
  refine L.Y Y.mv ?_
  refine AList.nil ?_
  exact ⟨k2, by omega, _, _, ⟨by omega, _, _, _, _, _, _, rfl, rfl, h⟩, IsPart.at [] [0, 1, 2, 3] base0 (H.c (H.c (H.c (H.c .nil)))) (E.c (E.c (E.c (E.c (E.c (E.c .nil))))))⟩
 ·
  have hb4 := hb
  try simp only [hS, hE, ne_eq] at hb
  first | rw [if_pos hb4] at h | rw [if_neg (Bool.eq_false_iff.1 hb4)] at h | rw [if_pos hb] at h | rw [if_neg hb] at h | (simp only [hb, hT, reduceIte] at h) | skip
  refine AWp.exit ?_
  refine AWp.seq ?_
  refine AWp.region ?_
  refine L.Y Y.mv ?_
  refine L.Y Y.asg ?_
  refine AList.nil ?_
  obtain rfl := Option.some.inj h
  refine AWp.ret ?_
  exact ⟨.inr rfl, [(2, _)], _, ⟨rfl, rfl⟩, IsPart.at [] [1] base0 (H.c .nil) (E.c .nil)⟩

end Go.Proofs.YtdaneldckdjjoaaDoor.PFnExactNearestOf
