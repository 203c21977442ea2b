-- Written by a program of this session's (wip/myprint2): the functions by the kit's print, the walks by awgen.py. Lean checks it.
import Derived.Test.YtpippjgphndjmaaDoorPFnRationalTablesx0
import Derived.Test.YtpippjgphndjmaaDoorPFnRationalTablesx1
import Derived.Test.YtpippjgphndjmaaDoorPFnRationalTablesx7
namespace Go.Proofs.YtpippjgphndjmaaDoor.PFnRationalTables
open Go.RowKit Go.Proofs.YtpippjgphndjmaaDoorW.PrintWords Go.Proofs.YtpippjgphndjmaaDoorW.PrintLast Go.Proofs.YtpippjgphndjmaaDoorW.PrintMore Go.Proofs.YtpippjgphndjmaaDoorM Go.Proofs.YtpippjgphndjmaaDoorA Go.Proofs.YtpippjgphndjmaaDoorT
attribute [local go_sem] max2_int min2_int max_two min_two max_three min_three max_four min_four   -- for this text's walks alone
set_option linter.unusedVariables false
set_option linter.unusedSimpArgs false

/-! ### impl_relation: function 138 -/
mutual
def impl_relation.l0 : Nat → Int → (Int → Int → Option Bool) → Int → Int → Int → List Int → Option (Int × List Int)
 | 0, _, _, _, _, _, _ => none
 | k + 1, x0, x1, x12, x13, x337000, x337001 => if x13 < x12 then (impl_relation.l1 k x0 x1 x13 x12 x13 x0 0 x337000 x337001) else (some (x337000, x337001))
def impl_relation.l1 : Nat → Int → (Int → Int → Option Bool) → Int → Int → Int → Int → Int → Int → List Int → Option (Int × List Int)
 | 0, _, _, _, _, _, _, _, _, _ => none
 | k + 1, x0, x1, x6, x12, x13, x16, x17, x337000, x337001 => if x17 < x16 then ((x1 x6 x17).bind fun t337 => (if t337 = true then (if 0 ≤ x6 then (if x6 < (x337001.length : Int) then (if 0 ≤ x17 then (impl_relation.l1 k x0 x1 x6 x12 x13 x16 (wrap64 (x17 + 1)) x337000 (x337001.set (x6 : Int).toNat (Go.bits .or .i64 (rd x337001 x6) (shl .i64 1 x17)))) else (none)) else (none)) else (none)) else (impl_relation.l1 k x0 x1 x6 x12 x13 x16 (wrap64 (x17 + 1)) x337000 x337001))) else (impl_relation.l0 k x0 x1 x12 (wrap64 (x13 + 1)) x337000 x337001)
end
def impl_relation.f (k : Nat) (a0 : Int) (a1 : (Int → Int → Option Bool)) : Option (Int × List Int) := if 0 ≤ a0 then (if (a0 : Int).toNat ≤ 35184372088832 then (impl_relation.l0 k a0 a1 a0 0 a0 (List.replicate (a0 : Int).toNat 0)) else (none)) else (none)
set_option maxRecDepth 100000 in
set_option maxHeartbeats 20000000 in
theorem impl_relation.ac (k : Nat) (a0 : Int) (a1 : Int → Int → Option Bool) (r1 : Int) (r2 : List Int) (h : impl_relation.f k a0 a1 = some (r1, r2)) (F1 : FuncId) (cs1 : List AV) (hF1 : FnOk Tryd.prog F1) (hnf1 : noids cs1 = true) (hcf1 : ∀ x_ y_ r_, a1 x_ y_ = some r_ → ACalls Tryd.prog F1 (.lit (.int .i64 x_) :: .lit (.int .i64 y_) :: cs1) [] (fun v H' => v = .lit (.bool r_) ∧ H' = [])) :
  ACalls Tryd.prog 138 [.lit (.int .i64 a0), .fn F1 cs1] [] (fun v H' => v = .agg [.lit (.int .i64 r1), .own 0 r2.length] ∧ H' = [.sl 3 1 r2.length false (ints .i64 r2)]) := by
 obtain ⟨fn1, hff1, hnm1, hbd1⟩ := id hF1
 refine ACalls.ofV Tryd.func138 rfl (by exact Nat.le_of_ble_eq_true rfl) ?_
 simp only [Tryd.ntmps138, env0, impl_relation.f] at h ⊢
 repeat (first | (rw [iN] at h; obtain ⟨_, h⟩ := h) | (rw [iP] at h; obtain ⟨_, h⟩ := h) | (simp only [bS] at h))
 refine AWp.seq ?_
 refine AWp.region ?_
 refine L.M (M.al Y30) ?_
 refine AList.nil ?_
 refine AWp.seq ?_
 refine AWp.region ?_
 refine L.Y Y.mv ?_
 refine L.Y Y.mv ?_
 refine L.M (M.mk Tryd.underlying22 Y3) ?_
 refine L.Y (Y.bd Tryd.underlying30 Y30 P30) ?_
 refine L.M (M.al Y30) ?_
 refine L.S (S.stb Y30) ?_
 refine AList.nil ?_
 refine AWp.seq ?_
 refine AWp.seq ?_
 refine W.kp [0, 1, 4, 5] ?_
 refine AWp.region ?_
 refine L.Y Y.mv ?_
 refine L.Y Y.mv ?_
 refine AList.nil ?_
 refine AWp.block ?_
 refine AWp.loopI (fun kk e H => kk ≤ k ∧ ∃ (x0 : Int) (x12 : Int) (x13 : Int) (x333000 : Int) (x337000 : Int) (x337001 : List Int), e = [(0, .lit (.int .i64 x0)), (1, .fn F1 cs1), (4, .ptr 0 0), (5, .ptr 1 0), (12, .lit (.int .i64 x12)), (13, .lit (.int .i64 x13))] ∧ H = [.bx 30 [.lit (.int .i64 x333000), .lit (.slice none 0 0)], .bx 30 [.lit (.int .i64 x337000), .own 2 x337001.length], .sl 3 1 x337001.length true (ints .i64 x337001)] ∧ impl_relation.l0 kk x0 a1 x12 x13 x337000 x337001 = some (r1, r2)) (k := k)
  ⟨_, _, ⟨Nat.le_refl _, _, _, _, _, _, _, rfl, rfl, h⟩, IsPart.at [] [0, 2, 1] base0 (H.c (H.c (H.c .nil))) (E.c (E.c (E.c (E.c (E.c (E.c .nil))))))⟩ ?_
 clear h
 rintro k1 e H ⟨hk2, x0, x12, x13, x333000, x337000, x337001, rfl, rfl, h⟩
 cases k1 with
 | zero => exact absurd h (by simp [impl_relation.l0])
 | succ k1 =>
 simp only [impl_relation.l0] at h
 refine AWp.seq ?_
 refine AWp.region ?_
 refine L.Y Y.bin ?_
 refine AList.nil ?_
 refine AWp.seq ?_
 refine W.cond (fun hb => ?_) (fun hb => ?_)
 ·
  have hb3 := hb
  try simp only [hS, hE, ne_eq] at hb
  first | rw [if_pos hb3] at h | rw [if_neg (Bool.eq_false_iff.1 hb3)] at h | rw [if_pos hb] at h | rw [if_neg hb] at h | (simp only [hb, hT, reduceIte] at h) | skip
  refine AWp.skip ?_
  refine AWp.seq ?_
  refine AWp.block ?_
  refine AWp.seq ?_
  refine AWp.region ?_
  refine L.Y Y.mv ?_
  refine L.Y Y.asg ?_
  refine AList.nil ?_
  refine AWp.seq ?_
  refine AWp.region ?_
  refine L.Y Y.mv ?_
  refine L.Y Y.mv ?_
  refine AList.nil ?_
  refine AWp.block ?_
  refine AWp.loopI (fun kk e H => kk ≤ k1 ∧ ∃ (x0 : Int) (x6 : Int) (x12 : Int) (x13 : Int) (x16 : Int) (x17 : Int) (x333000 : Int) (x337000 : Int) (x337001 : List Int), e = [(0, .lit (.int .i64 x0)), (1, .fn F1 cs1), (4, .ptr 0 0), (5, .ptr 1 0), (6, .lit (.int .i64 x6)), (12, .lit (.int .i64 x12)), (13, .lit (.int .i64 x13)), (16, .lit (.int .i64 x16)), (17, .lit (.int .i64 x17))] ∧ H = [.bx 30 [.lit (.int .i64 x333000), .lit (.slice none 0 0)], .bx 30 [.lit (.int .i64 x337000), .own 2 x337001.length], .sl 3 1 x337001.length true (ints .i64 x337001)] ∧ impl_relation.l1 kk x0 a1 x6 x12 x13 x16 x17 x337000 x337001 = some (r1, r2)) (k := k1)
   ⟨_, _, ⟨Nat.le_refl _, _, _, _, _, _, _, _, _, _, rfl, rfl, h⟩, IsPart.at [] [0, 1, 2] base0 (H.c (H.c (H.c .nil))) (E.c (E.c (E.c (E.c (E.c (E.c (E.c (E.c (E.c .nil)))))))))⟩ ?_
  clear h
  rintro k4 e H ⟨hk5, x0, x6, x12, x13, x16, x17, x333000, x337000, x337001, rfl, rfl, h⟩
  cases k4 with
  | zero => exact absurd h (by simp [impl_relation.l1])
  | succ k4 =>
  simp only [impl_relation.l1] at h
  refine AWp.seq ?_
  refine AWp.region ?_
  refine L.Y Y.bin ?_
  refine AList.nil ?_
  refine AWp.seq ?_
  refine W.cond (fun hb => ?_) (fun hb => ?_)
  ·
   have hb6 := hb
   try simp only [hS, hE, ne_eq] at hb
   first | rw [if_pos hb6] at h | rw [if_neg (Bool.eq_false_iff.1 hb6)] at h | rw [if_pos hb] at h | rw [if_neg hb] at h | (simp only [hb, hT, reduceIte] at h) | skip
   refine AWp.skip ?_
   refine AWp.seq ?_
   refine AWp.block ?_
   refine AWp.seq ?_
   refine AWp.region ?_
   refine L.Y Y.mv ?_
   refine L.Y Y.asg ?_
   refine AList.nil ?_
   refine AWp.seq ?_
   refine AWp.region ?_
   refine L.Y Y.mv ?_
   refine L.Y Y.mv ?_
   refine L.Y Y.mv ?_
   obtain ⟨t337, hc7, h⟩ := Option.bind_eq_some_iff.1 h
   refine L.C (C.callE (l := true) [] hff1 (hcf1 _ _ _ hc7) .nil ?_ (hname := hnm1) (hb := hbd1))
   refine AList.nil ?_
   refine W.cond (fun hb => ?_) (fun hb => ?_)
   ·
    have hb8 := hb
    try simp only [hS, hE, ne_eq] at hb
    first | rw [if_pos hb8] at h | rw [if_neg (Bool.eq_false_iff.1 hb8)] at h | rw [if_pos hb] at h | rw [if_neg hb] at h | (simp only [hb, hT, reduceIte] at h) | skip
    repeat (first | (rw [iN] at h; obtain ⟨_, h⟩ := h) | (rw [iP] at h; obtain ⟨_, h⟩ := h) | (simp only [bS] at h))
    refine W.kp [0, 1, 4, 5, 6, 7, 12, 13, 16, 17, 18, 23] ?_
    refine Dt.reg [] [9] (.y 0 (.t 1 (.y 2 (.y 3 (.t 4 (.y 5 (.y 6 (.y 7 (.y 8 (.last 9 .done)))))))))) HM ?_
    refine Dt.Y rfl wantN (Y.fa (off := 1) Tryd.underlying30 Y22) ?_
    refine Dt.T rfl wantN (D.ld Tryd.underlying22) ?_
    refine Dt.Y rfl wantN Y.mv ?_
    refine Dt.Y rfl wantN (Y.ixo Tryd.underlying22 Y3) ?_
    refine Dt.T rfl wantN (D.ld Tryd.underlying3) ?_
    refine Dt.Y rfl wantN Y.mv ?_
    refine Dt.Y rfl wantN Y.bin ?_
    refine Dt.Y rfl wantN Y.bin ?_
    refine Dt.Y rfl wantN (Y.ixo Tryd.underlying22 Y3) ?_
    refine Dt.L rfl wantN ?_
    refine Op.S (S.sts Y3) ?_
    refine Du.nil ?_
    refine W.kp [0, 1, 4, 5, 6, 7, 12, 13, 16, 17, 18, 23] ?_
    refine AWp.region ?_
    refine L.Y Y.bin ?_
    refine L.Y Y.mv ?_
    refine AList.nil ?_
    exact ⟨k4, by omega, _, _, ⟨by omega, _, _, _, _, _, _, _, _, _, rfl, rfl, h⟩, IsPart.at [] [0, 1, 2] base0 (H.c (H.c (H.c .nil))) (E.c (E.c (E.c (E.c (E.c (E.c (E.c (E.c (E.c .nil)))))))))⟩
   ·
    have hb8 := hb
    try simp only [hS, hE, ne_eq] at hb
    first | rw [if_pos hb8] at h | rw [if_neg (Bool.eq_false_iff.1 hb8)] at h | rw [if_pos hb] at h | rw [if_neg hb] at h | (simp only [hb, hT, reduceIte] at h) | skip
    refine AWp.skip ?_
    refine W.kp [0, 1, 4, 5, 6, 7, 12, 13, 16, 17, 18, 23] ?_
    refine AWp.region ?_
    refine L.Y Y.bin ?_
    refine L.Y Y.mv ?_
    refine AList.nil ?_
    exact ⟨k4, by omega, _, _, ⟨by omega, _, _, _, _, _, _, _, _, _, rfl, rfl, h⟩, IsPart.at [] [0, 1, 2] base0 (H.c (H.c (H.c .nil))) (E.c (E.c (E.c (E.c (E.c (E.c (E.c (E.c (E.c .nil)))))))))⟩
  ·
   have hb6 := hb
   try simp only [hS, hE, ne_eq] at hb
   first | rw [if_pos hb6] at h | rw [if_neg (Bool.eq_false_iff.1 hb6)] at h | rw [if_pos hb] at h | rw [if_neg hb] at h | (simp only [hb, hT, reduceIte] at h) | skip
   refine AWp.exit ?_
   refine AWp.region ?_
   refine L.Y Y.bin ?_
   refine L.Y Y.mv ?_
   refine AList.nil ?_
   exact ⟨k4, by omega, _, _, ⟨by omega, _, _, _, _, _, _, rfl, rfl, h⟩, IsPart.at [] [0, 1, 2] base0 (H.c (H.c (H.c .nil))) (E.c (E.c (E.c (E.c (E.c (E.c .nil))))))⟩
 ·
  have hb3 := hb
  try simp only [hS, hE, ne_eq] at hb
  first | rw [if_pos hb3] at h | rw [if_neg (Bool.eq_false_iff.1 hb3)] at h | rw [if_pos hb] at h | rw [if_neg hb] at h | (simp only [hb, hT, reduceIte] at h) | skip
  refine AWp.exit ?_
  refine AWp.seq ?_
  refine AWp.region ?_
  refine L.S (S.ldN Tryd.underlying30 Y30) ?_
  refine L.S (S.stb Y30) ?_
  refine AList.nil ?_
  simp only [Option.some.injEq, Prod.mk.injEq] at h
  obtain ⟨rfl, rfl⟩ := h
  refine AWp.ret ?_
  exact ⟨.inr rfl, _, _, _, Res.cl Tryd.underlying30 Y30, ⟨rfl, rfl⟩, PartV.at [] [2] base0 (H.c .nil)⟩

/-! ### impl_revealed_1: function 139 -/
def impl_revealed_1.f (a0 : Int) (a1 : Int) (l2_0 : List Int) : Option (Bool) := if a0 = a1 then (some false) else (if 0 ≤ a0 then (if 0 ≤ a1 then (if 0 ≤ (Go.bits .or .i64 (shl .i64 1 a0) (shl .i64 1 a1)) then (if (Go.bits .or .i64 (shl .i64 1 a0) (shl .i64 1 a1)) < (l2_0.length : Int) then (some ((rd l2_0 (Go.bits .or .i64 (shl .i64 1 a0) (shl .i64 1 a1))) == (shl .i64 1 a1))) else (none)) else (none)) else (none)) else (none))
set_option maxRecDepth 100000 in
set_option maxHeartbeats 20000000 in
theorem impl_revealed_1.ac (a0 : Int) (a1 : Int) (l2_0 : List Int) (r : Bool) (h : impl_revealed_1.f a0 a1 l2_0 = some r) :
  ACalls Tryd.prog 139 [.lit (.int .i64 a0), .lit (.int .i64 a1), .rptr [.row 1 l2_0.length false (ints .i64 l2_0)]] [] (fun v H' => v = .lit (.bool r) ∧ H' = []) := by
 refine ACalls.ofP [5] Tryd.func139 rfl (by exact Nat.le_of_ble_eq_true rfl) rfl (by decide) ?_
 simp only [Tryd.ntmps139, env0, impl_revealed_1.f] at h ⊢
 refine AWp.seq ?_
 refine AWp.region ?_
 refine L.Y Y.asg ?_
 refine AList.nil ?_
 refine AWp.seq ?_
 refine Dt.reg [] [] (.y 0 (.y 1 (.y 2 (.y 3 (.t 4 (.y 5 (.y 6 (.y 7 (.y 8 (.y 9 (.y 10 (.t 11 (.y 12 (.y 13 (.y 14 (.y 15 (.y 16 .done))))))))))))))))) HM ?_
 refine Dt.Y rfl wantN Y.mv ?_
 refine Dt.Y rfl wantN Y.mv ?_
 refine Dt.Y rfl wantN Y.bin ?_
 refine Dt.Y rfl wantN Y.mv ?_
 refine Dt.F 9 (fun hb => ?_) (fun hb => ?_)
 ·
  have hb1 := hb
  try simp only [hS, hE, ne_eq] at hb
  first | rw [if_pos hb1] at h | rw [if_neg (Bool.eq_false_iff.1 hb1)] at h | rw [if_pos hb] at h | rw [if_neg hb] at h | (simp only [hb, hT, reduceIte] at h) | skip
  repeat (first | (rw [iN] at h; obtain ⟨_, h⟩ := h) | (rw [iP] at h; obtain ⟨_, h⟩ := h) | (simp only [bS] at h))
  refine Dt.T rfl (wantY hb1) (D.ld Tryd.underlying22) ?_
  refine Dt.Y rfl (wantY hb1) Y.mv ?_
  refine Dt.Y rfl (wantY hb1) Y.bin ?_
  refine Dt.Y rfl (wantY hb1) Y.mv ?_
  refine Dt.Y rfl (wantY hb1) Y.bin ?_
  refine Dt.Y rfl (wantY hb1) Y.bin ?_
  refine Dt.Y rfl (wantY hb1) (Y.ixr Tryd.underlying22 Y3) ?_
  refine Dt.T rfl (wantY hb1) (D.ld Tryd.underlying3) ?_
  refine Dt.Y rfl (wantY hb1) Y.mv ?_
  refine Dt.Y rfl (wantY hb1) Y.bin ?_
  refine Dt.Y rfl (wantY hb1) Y.bin ?_
  refine Dt.Y rfl wantN (Y.pk (c := true) hb1) ?_
  refine Dt.Y rfl wantN Y.asg ?_
  refine Dt.nil ?_
  obtain rfl := Option.some.inj h
  refine AWp.ret ?_
  exact ⟨.inr rfl, [(5, _)], _, ⟨rfl, rfl⟩, IsPart.at [] [] base0 .nil (E.c .nil)⟩
 ·
  have hb1 := hb
  try simp only [hS, hE, ne_eq] at hb
  first | rw [if_pos hb1] at h | rw [if_neg (Bool.eq_false_iff.1 hb1)] at h | rw [if_pos hb] at h | rw [if_neg hb] at h | (simp only [hb, hT, reduceIte] at h) | skip
  refine Dt.Nt rfl (wantZ hb1) ?_
  refine Dt.No rfl (wantZ hb1) ?_
  refine Dt.No rfl (wantZ hb1) ?_
  refine Dt.No rfl (wantZ hb1) ?_
  refine Dt.No rfl (wantZ hb1) ?_
  refine Dt.No rfl (wantZ hb1) ?_
  refine Dt.No rfl (wantZ hb1) ?_
  refine Dt.Nt rfl (wantZ hb1) ?_
  refine Dt.No rfl (wantZ hb1) ?_
  refine Dt.No rfl (wantZ hb1) ?_
  refine Dt.No rfl (wantZ hb1) ?_
  refine Dt.Y rfl wantN (Y.pk (c := false) hb1) ?_
  refine Dt.Y rfl wantN Y.asg ?_
  refine Dt.nil ?_
  obtain rfl := Option.some.inj h
  refine AWp.ret ?_
  exact ⟨.inr rfl, [(5, _)], _, ⟨rfl, rfl⟩, IsPart.at [] [] base0 .nil (E.c .nil)⟩

/-! ### impl_revealed: function 107 -/
def impl_revealed.f (k : Nat) (a0 : Int) (l1 : List Int) : Option (Int × List Int) := (impl_relation.f k a0 (fun z0_ z1_ => impl_revealed_1.f z0_ z1_ l1)).bind fun bt343 => (some (bt343.1, bt343.2))
set_option maxRecDepth 100000 in
set_option maxHeartbeats 20000000 in
theorem impl_revealed.ac (k : Nat) (a0 : Int) (l1 : List Int) (r1 : Int) (r2 : List Int) (h : impl_revealed.f k a0 l1 = some (r1, r2)) :
  ACalls Tryd.prog 107 [.lit (.int .i64 a0), .row 1 l1.length false (ints .i64 l1)] [] (fun v H' => v = .agg [.lit (.int .i64 r1), .own 0 r2.length] ∧ H' = [.sl 3 1 r2.length false (ints .i64 r2)]) := by
 refine ACalls.ofV Tryd.func107 rfl (by exact Nat.le_of_ble_eq_true rfl) ?_
 simp only [Tryd.ntmps107, env0, impl_revealed.f] at h ⊢
 refine AWp.seq ?_
 refine AWp.region ?_
 refine L.M M.bx ?_
 refine L.M (M.al Y30) ?_
 refine AList.nil ?_
 refine AWp.seq ?_
 refine AWp.region ?_
 refine L.Y Y.mv ?_
 refine L.Y Y.fn ?_
 obtain ⟨⟨t343, t344⟩, hc1, h⟩ := Option.bind_eq_some_iff.1 h
 dsimp only at h
 refine L.C (C.callE (l := true) [] Tryd.func138 (impl_relation.ac _ _ _ _ _ hc1 139 _ (FnOk.at_ Tryd.func139) (by simp [noids, noid, noids_ints]) (fun x_ y_ r_ h_ => impl_revealed_1.ac x_ y_ _ r_ h_)) .nil ?_)
 refine L.S (S.stb Y30) ?_
 refine AList.nil ?_
 simp only [Option.some.injEq, Prod.mk.injEq] at h
 obtain ⟨rfl, rfl⟩ := h
 refine AWp.ret ?_
 exact ⟨.inr rfl, _, _, _, Res.cl Tryd.underlying30 Y30, ⟨rfl, rfl⟩, PartV.at [] [2] base0 (H.c .nil)⟩

/-! ### slices_Equal_int_int: function 108 -/
def slices_Equal_int_int.l0 : Nat → List Int → List Int → Int → Int → Option (Bool)
 | 0, _, _, _, _ => none
 | k + 1, x0, x1, x12, x13 => if x13 < x12 then (if 0 ≤ x13 then (if x13 < (x0.length : Int) then (if x13 < (x1.length : Int) then (if (rd x0 x13) = (rd x1 x13) then (slices_Equal_int_int.l0 k x0 x1 x12 (wrap64 (x13 + 1))) else (some false)) else (none)) else (none)) else (none)) else (some true)
def slices_Equal_int_int.f (k : Nat) (l0 : List Int) (l1 : List Int) : Option (Bool) := if (l0.length : Int) = (l1.length : Int) then (slices_Equal_int_int.l0 k l0 l1 (l0.length : Int) 0) else (some false)
set_option maxRecDepth 100000 in
set_option maxHeartbeats 20000000 in
theorem slices_Equal_int_int.ac (k : Nat) (l0 : List Int) (l1 : List Int) (r : Bool) (h : slices_Equal_int_int.f k l0 l1 = some r) :
  ACalls Tryd.prog 108 [.row 1 l0.length false (ints .i64 l0), .row 1 l1.length false (ints .i64 l1)] [] (fun v H' => v = .lit (.bool r) ∧ H' = []) := by
 refine ACalls.ofP [4] Tryd.func108 rfl (by exact Nat.le_of_ble_eq_true rfl) rfl (by decide) ?_
 simp only [Tryd.ntmps108, env0, slices_Equal_int_int.f] at h ⊢
 refine AWp.seq ?_
 refine AWp.region ?_
 refine L.Y Y.asg ?_
 refine AList.nil ?_
 refine AWp.seq ?_
 refine AWp.seq ?_
 refine AWp.region ?_
 refine L.Y Y.mv ?_
 refine L.Y (Y.ln Tryd.underlying22) ?_
 refine L.Y Y.mv ?_
 refine L.Y (Y.ln Tryd.underlying22) ?_
 refine L.Y Y.bin ?_
 refine AList.nil ?_
 refine W.cond (fun hb => ?_) (fun hb => ?_)
 ·
  have hb1 := hb
  try simp only [hS, hE, ne_eq] at hb
  first | rw [if_pos hb1] at h | rw [if_neg (Bool.eq_false_iff.1 hb1)] at h | rw [if_pos hb] at h | rw [if_neg hb] at h | (simp only [hb, hT, reduceIte] at h) | skip
  refine AWp.seq ?_
  refine W.kp [0, 1, 4, 10] ?_
  refine AWp.region ?_
  refine L.Y Y.asg ?_
  refine AList.nil ?_
  obtain rfl := Option.some.inj h
  refine AWp.ret ?_
  exact ⟨.inr rfl, [(4, _)], _, ⟨rfl, rfl⟩, IsPart.at [] [] base0 .nil (E.c .nil)⟩
 ·
  have hb1 := hb
  try simp only [hS, hE, ne_eq] at hb
  first | rw [if_pos hb1] at h | rw [if_neg (Bool.eq_false_iff.1 hb1)] at h | rw [if_pos hb] at h | rw [if_neg hb] at h | (simp only [hb, hT, reduceIte] at h) | skip
  refine AWp.skip ?_
  refine AWp.seq ?_
  refine AWp.seq ?_
  refine W.kp [0, 1, 4, 10] ?_
  refine AWp.region ?_
  refine L.Y Y.mv ?_
  refine L.Y (Y.ln Tryd.underlying22) ?_
  refine L.Y Y.mv ?_
  refine AList.nil ?_
  refine AWp.block ?_
  refine AWp.loopI (fun kk e H => kk ≤ k ∧ ∃ (x12 : Int) (x13 : Int), e = [(0, .row 1 l0.length false (ints .i64 l0)), (1, .row 1 l1.length false (ints .i64 l1)), (12, .lit (.int .i64 x12)), (13, .lit (.int .i64 x13))] ∧ H = [] ∧ slices_Equal_int_int.l0 kk l0 l1 x12 x13 = some r) (k := k)
   ⟨_, _, ⟨Nat.le_refl _, _, _, rfl, rfl, h⟩, IsPart.at [] [] base0 .nil (E.c (E.c (E.c (E.c .nil))))⟩ ?_
  clear h
  rintro k2 e H ⟨hk3, x12, x13, rfl, rfl, h⟩
  cases k2 with
  | zero => exact absurd h (by simp [slices_Equal_int_int.l0])
  | succ k2 =>
  simp only [slices_Equal_int_int.l0] at h
  refine AWp.seq ?_
  refine AWp.region ?_
  refine L.Y Y.bin ?_
  refine AList.nil ?_
  refine AWp.seq ?_
  refine W.cond (fun hb => ?_) (fun hb => ?_)
  ·
   have hb4 := hb
   try simp only [hS, hE, ne_eq] at hb
   first | rw [if_pos hb4] at h | rw [if_neg (Bool.eq_false_iff.1 hb4)] at h | rw [if_pos hb] at h | rw [if_neg hb] at h | (simp only [hb, hT, reduceIte] at h) | skip
   repeat (first | (rw [iN] at h; obtain ⟨_, h⟩ := h) | (rw [iP] at h; obtain ⟨_, h⟩ := h) | (simp only [bS] at h))
   refine AWp.skip ?_
   refine AWp.seq ?_
   refine AWp.block ?_
   refine AWp.seq ?_
   refine AWp.region ?_
   refine L.Y Y.mv ?_
   refine L.Y Y.asg ?_
   refine AList.nil ?_
   refine AWp.seq ?_
   refine Dt.reg [] [] (.y 0 (.y 1 (.y 2 (.t 3 (.y 4 (.y 5 (.y 6 (.t 7 (.y 8 .done))))))))) HM ?_
   refine Dt.Y rfl wantN Y.mv ?_
   refine Dt.Y rfl wantN Y.mv ?_
   refine Dt.Y rfl wantN (Y.ixr Tryd.underlying22 Y3) ?_
   refine Dt.T rfl wantN (D.ld Tryd.underlying3) ?_
   refine Dt.Y rfl wantN Y.mv ?_
   refine Dt.Y rfl wantN Y.mv ?_
   refine Dt.Y rfl wantN (Y.ixr Tryd.underlying22 Y3) ?_
   refine Dt.T rfl wantN (D.ld Tryd.underlying3) ?_
   refine Dt.Y rfl wantN Y.bin ?_
   refine Dt.nil ?_
   refine W.cond (fun hb => ?_) (fun hb => ?_)
   ·
    have hb5 := hb
    try simp only [hS, hE, ne_eq] at hb
    first | rw [if_pos hb5] at h | rw [if_neg (Bool.eq_false_iff.1 hb5)] at h | rw [if_pos hb] at h | rw [if_neg hb] at h | (simp only [hb, hT, reduceIte] at h) | skip
    refine AWp.seq ?_
    refine W.kp [0, 1, 5, 12, 13, 14, 24] ?_
    refine AWp.region ?_
    refine L.Y Y.asg ?_
    refine AList.nil ?_
    obtain rfl := Option.some.inj h
    refine AWp.ret ?_
    exact ⟨.inr rfl, [(4, _)], _, ⟨rfl, rfl⟩, IsPart.at [] [] base0 .nil (E.c .nil)⟩
   ·
    have hb5 := hb
    try simp only [hS, hE, ne_eq] at hb
    first | rw [if_pos hb5] at h | rw [if_neg (Bool.eq_false_iff.1 hb5)] at h | rw [if_pos hb] at h | rw [if_neg hb] at h | (simp only [hb, hT, reduceIte] at h) | skip
    refine AWp.skip ?_
    refine W.kp [0, 1, 5, 12, 13, 14, 24] ?_
    refine AWp.region ?_
    refine L.Y Y.bin ?_
    refine L.Y Y.mv ?_
    refine AList.nil ?_
    exact ⟨k2, by omega, _, _, ⟨by omega, _, _, rfl, rfl, h⟩, IsPart.at [] [] base0 .nil (E.c (E.c (E.c (E.c .nil))))⟩
  ·
   have hb4 := hb
   try simp only [hS, hE, ne_eq] at hb
   first | rw [if_pos hb4] at h | rw [if_neg (Bool.eq_false_iff.1 hb4)] at h | rw [if_pos hb] at h | rw [if_neg hb] at h | (simp only [hb, hT, reduceIte] at h) | skip
   refine AWp.exit ?_
   refine AWp.seq ?_
   refine AWp.region ?_
   refine L.Y Y.asg ?_
   refine AList.nil ?_
   obtain rfl := Option.some.inj h
   refine AWp.ret ?_
   exact ⟨.inr rfl, [(4, _)], _, ⟨rfl, rfl⟩, IsPart.at [] [] base0 .nil (E.c .nil)⟩

/-! ### impl_Order_choice: function 83 -/
def impl_Order_choice.l0 : Nat → Int → Int → List Int → Int → Int → Int → List Int → Option (Int)
 | 0, _, _, _, _, _, _, _ => none
 | k + 1, x1, x5, x9, x10, x11, x350000, x350001 => if x11 < x10 then (if 0 ≤ x11 then (if x11 < (x9.length : Int) then (if 0 ≤ (rd x9 x11) then (if (rd x9 x11) < (x350001.length : Int) then (if (Go.bits .and .i64 (rd x350001 (rd x9 x11)) x1) = 0 then (impl_Order_choice.l0 k x1 (Go.bits .or .i64 x5 (shl .i64 1 (rd x9 x11))) x9 x10 (wrap64 (x11 + 1)) x350000 x350001) else (impl_Order_choice.l0 k x1 x5 x9 x10 (wrap64 (x11 + 1)) x350000 x350001)) else (none)) else (none)) else (none)) else (none)) else (some x5)
def impl_Order_choice.f (k : Nat) (a0_0 : Int) (l0_1 : List Int) (a1 : Int) : Option (Int) := (impl_members.f k a1).bind fun t350 => (impl_Order_choice.l0 k a1 0 t350 (t350.length : Int) 0 a0_0 l0_1)
set_option maxRecDepth 100000 in
set_option maxHeartbeats 20000000 in
theorem impl_Order_choice.ac (k : Nat) (a0_0 : Int) (l0_1 : List Int) (a1 : Int) (r : Int) (h : impl_Order_choice.f k a0_0 l0_1 a1 = some r) :
  ACalls Tryd.prog 83 [.agg [.lit (.int .i64 a0_0), .row 1 l0_1.length false (ints .i64 l0_1)], .lit (.int .i64 a1)] [] (fun v H' => v = .lit (.int .i64 r) ∧ H' = []) := by
 refine ACalls.ofP [4] Tryd.func83 rfl (by exact Nat.le_of_ble_eq_true rfl) rfl (by decide) ?_
 simp only [Tryd.ntmps83, env0, impl_Order_choice.f] at h ⊢
 refine AWp.seq ?_
 refine AWp.region ?_
 refine L.M M.bx ?_
 refine L.Y Y.asg ?_
 refine AList.nil ?_
 refine AWp.seq ?_
 refine AWp.region ?_
 refine L.Y Y.asg ?_
 refine AList.nil ?_
 refine AWp.seq ?_
 refine AWp.seq ?_
 refine AWp.region ?_
 refine L.Y Y.mv ?_
 obtain ⟨t350, hc1, h⟩ := Option.bind_eq_some_iff.1 h
 refine L.C (C.callE (l := true) [] Tryd.func89 (impl_members.ac _ _ _ hc1) .nil ?_)
 refine L.Y (Y.ln Tryd.underlying22) ?_
 refine L.Y Y.mv ?_
 refine AList.nil ?_
 refine AWp.block ?_
 refine AWp.loopI (fun kk e H => kk ≤ k ∧ ∃ (x1 : Int) (x5 : Int) (x9 : List Int) (x10 : Int) (x11 : Int) (x350000 : Int), e = [(1, .lit (.int .i64 x1)), (2, .ptr 0 0), (5, .lit (.int .i64 x5)), (9, .own 1 x9.length), (10, .lit (.int .i64 x10)), (11, .lit (.int .i64 x11))] ∧ H = [.bx 30 [.lit (.int .i64 x350000), .row 1 l0_1.length false (ints .i64 l0_1)], .sl 3 1 x9.length false (ints .i64 x9)] ∧ impl_Order_choice.l0 kk x1 x5 x9 x10 x11 x350000 l0_1 = some r) (k := k)
  ⟨_, _, ⟨Nat.le_refl _, _, _, _, _, _, _, rfl, rfl, h⟩, IsPart.at [] [0, 1] base0 (H.c (H.c .nil)) (E.c (E.c (E.c (E.c (E.c (E.c .nil))))))⟩ ?_
 clear h
 rintro k2 e H ⟨hk3, x1, x5, x9, x10, x11, x350000, rfl, rfl, h⟩
 cases k2 with
 | zero => exact absurd h (by simp [impl_Order_choice.l0])
 | succ k2 =>
 simp only [impl_Order_choice.l0] at h
 refine AWp.seq ?_
 refine AWp.region ?_
 refine L.Y Y.bin ?_
 refine AList.nil ?_
 refine AWp.seq ?_
 refine W.cond (fun hb => ?_) (fun hb => ?_)
 ·
  have hb4 := hb
  try simp only [hS, hE, ne_eq] at hb
  first | rw [if_pos hb4] at h | rw [if_neg (Bool.eq_false_iff.1 hb4)] at h | rw [if_pos hb] at h | rw [if_neg hb] at h | (simp only [hb, hT, reduceIte] at h) | skip
  repeat (first | (rw [iN] at h; obtain ⟨_, h⟩ := h) | (rw [iP] at h; obtain ⟨_, h⟩ := h) | (simp only [bS] at h))
  refine AWp.skip ?_
  refine AWp.seq ?_
  refine AWp.block ?_
  refine AWp.seq ?_
  refine AWp.region ?_
  refine L.Y (Y.ixo Tryd.underlying22 Y3) ?_
  refine L.S (S.ld Tryd.underlying3) ?_
  refine L.Y Y.asg ?_
  refine AList.nil ?_
  refine AWp.seq ?_
  refine AWp.region ?_
  refine L.Y (Y.fa (off := 1) Tryd.underlying30 Y22) ?_
  refine L.S (S.ld Tryd.underlying22) ?_
  refine L.Y Y.mv ?_
  refine L.Y (Y.ixr Tryd.underlying22 Y3) ?_
  refine L.S (S.ld Tryd.underlying3) ?_
  refine L.Y Y.mv ?_
  refine L.Y Y.bin ?_
  refine L.Y Y.bin ?_
  refine AList.nil ?_
  refine W.cond (fun hb => ?_) (fun hb => ?_)
  ·
   have hb5 := hb
   try simp only [hS, hE, ne_eq] at hb
   first | rw [if_pos hb5] at h | rw [if_neg (Bool.eq_false_iff.1 hb5)] at h | rw [if_pos hb] at h | rw [if_neg hb] at h | (simp only [hb, hT, reduceIte] at h) | skip
   refine W.kp [1, 2, 5, 7, 9, 10, 11, 12, 22] ?_
   refine AWp.region ?_
   refine L.Y Y.mv ?_
   refine L.Y Y.mv ?_
   refine L.Y Y.bin ?_
   refine L.Y Y.bin ?_
   refine L.Y Y.asg ?_
   refine AList.nil ?_
   refine W.kp [1, 2, 5, 7, 9, 10, 11, 12, 22] ?_
   refine AWp.region ?_
   refine L.Y Y.bin ?_
   refine L.Y Y.mv ?_
   refine AList.nil ?_
   exact ⟨k2, by omega, _, _, ⟨by omega, _, _, _, _, _, _, rfl, rfl, h⟩, IsPart.at [] [0, 1] base0 (H.c (H.c .nil)) (E.c (E.c (E.c (E.c (E.c (E.c .nil))))))⟩
  ·
   have hb5 := hb
   try simp only [hS, hE, ne_eq] at hb
   first | rw [if_pos hb5] at h | rw [if_neg (Bool.eq_false_iff.1 hb5)] at h | rw [if_pos hb] at h | rw [if_neg hb] at h | (simp only [hb, hT, reduceIte] at h) | skip
   refine AWp.skip ?_
   refine W.kp [1, 2, 5, 7, 9, 10, 11, 12, 22] ?_
   refine AWp.region ?_
   refine L.Y Y.bin ?_
   refine L.Y Y.mv ?_
   refine AList.nil ?_
   exact ⟨k2, by omega, _, _, ⟨by omega, _, _, _, _, _, _, rfl, rfl, h⟩, IsPart.at [] [0, 1] base0 (H.c (H.c .nil)) (E.c (E.c (E.c (E.c (E.c (E.c .nil))))))⟩
 ·
  have hb4 := hb
  try simp only [hS, hE, ne_eq] at hb
  first | rw [if_pos hb4] at h | rw [if_neg (Bool.eq_false_iff.1 hb4)] at h | rw [if_pos hb] at h | rw [if_neg hb] at h | (simp only [hb, hT, reduceIte] at h) | skip
  refine AWp.exit ?_
  refine AWp.seq ?_
  refine AWp.region ?_
  refine L.Y Y.mv ?_
  refine L.Y Y.asg ?_
  refine AList.nil ?_
  obtain rfl := Option.some.inj h
  refine AWp.ret ?_
  exact ⟨.inr rfl, [(4, _)], _, ⟨rfl, rfl⟩, IsPart.at [] [] base0 .nil (E.c .nil)⟩

/-! ### impl_Order_choices: function 109 -/
def impl_Order_choices.l0 : Nat → List Int → Int → Int → Int → List Int → Option (List Int)
 | 0, _, _, _, _, _ => none
 | k + 1, x3, x8, x9, x356000, x356001 => if x9 < x8 then ((impl_Order_choice.f k x356000 x356001 x9).bind fun t359 => (if x3.length < 17592186044416 then (impl_Order_choices.l0 k (x3 ++ [t359]) x8 (wrap64 (x9 + 1)) x356000 x356001) else (none))) else (some x3)
def impl_Order_choices.f (k : Nat) (a0_0 : Int) (l0_1 : List Int) : Option (List Int) := if 0 ≤ a0_0 then (impl_Order_choices.l0 k (([] : List Int)) (shl .i64 1 a0_0) 0 a0_0 l0_1) else (none)
set_option maxRecDepth 100000 in
set_option maxHeartbeats 20000000 in
theorem impl_Order_choices.ac (k : Nat) (a0_0 : Int) (l0_1 : List Int) (r : List Int) (h : impl_Order_choices.f k a0_0 l0_1 = some r) :
  ACalls Tryd.prog 109 [.agg [.lit (.int .i64 a0_0), .row 1 l0_1.length false (ints .i64 l0_1)]] [] (fun v H' => v = .own 0 r.length ∧ H' = [.sl 3 1 r.length false (ints .i64 r)]) := by
 refine ACalls.ofP [2] Tryd.func109 rfl (by exact Nat.le_of_ble_eq_true rfl) rfl (by decide) ?_
 simp only [Tryd.ntmps109, env0, impl_Order_choices.f] at h ⊢
 repeat (first | (rw [iN] at h; obtain ⟨_, h⟩ := h) | (rw [iP] at h; obtain ⟨_, h⟩ := h) | (simp only [bS] at h))
 refine AWp.seq ?_
 refine AWp.region ?_
 refine L.M M.bx ?_
 refine L.Y Y.asg ?_
 refine AList.nil ?_
 refine AWp.seq ?_
 refine AWp.region ?_
 refine L.M (M.bs Tryd.underlying22 Y3) ?_
 refine L.Y Y.asg ?_
 refine AList.nil ?_
 refine AWp.seq ?_
 refine AWp.seq ?_
 refine AWp.region ?_
 refine L.Y (Y.fa (off := 0) Tryd.underlying30 Y3) ?_
 refine L.S (S.ld Tryd.underlying3) ?_
 refine L.Y Y.bin ?_
 refine L.Y Y.mv ?_
 refine AList.nil ?_
 refine AWp.block ?_
 refine AWp.loopI (fun kk e H => kk ≤ k ∧ ∃ (x3 : List Int) (x8 : Int) (x9 : Int) (x356000 : Int), e = [(1, .ptr 0 0), (2, .lit (.slice none 0 0)), (3, .own 1 x3.length), (8, .lit (.int .i64 x8)), (9, .lit (.int .i64 x9))] ∧ H = [.bx 30 [.lit (.int .i64 x356000), .row 1 l0_1.length false (ints .i64 l0_1)], .sl 3 1 x3.length true (ints .i64 x3)] ∧ impl_Order_choices.l0 kk x3 x8 x9 x356000 l0_1 = some r) (k := k)
  ⟨_, _, ⟨Nat.le_refl _, _, _, _, _, rfl, rfl, h⟩, IsPart.at [] [0, 1] base0 (H.c (H.c .nil)) (E.c (E.c (E.c (E.c (E.c .nil)))))⟩ ?_
 clear h
 rintro k1 e H ⟨hk2, x3, x8, x9, x356000, rfl, rfl, h⟩
 cases k1 with
 | zero => exact absurd h (by simp [impl_Order_choices.l0])
 | succ k1 =>
 simp only [impl_Order_choices.l0] at h
 refine AWp.seq ?_
 refine AWp.region ?_
 refine L.Y Y.bin ?_
 refine AList.nil ?_
 refine AWp.seq ?_
 refine W.cond (fun hb => ?_) (fun hb => ?_)
 ·
  have hb3 := hb
  try simp only [hS, hE, ne_eq] at hb
  first | rw [if_pos hb3] at h | rw [if_neg (Bool.eq_false_iff.1 hb3)] at h | rw [if_pos hb] at h | rw [if_neg hb] at h | (simp only [hb, hT, reduceIte] at h) | skip
  refine AWp.skip ?_
  refine AWp.seq ?_
  refine AWp.block ?_
  refine AWp.seq ?_
  refine AWp.region ?_
  refine L.Y Y.mv ?_
  refine L.Y Y.asg ?_
  refine AList.nil ?_
  refine AWp.region ?_
  refine L.Y Y.mv ?_
  refine L.S (S.ldN Tryd.underlying30 Y30) ?_
  refine L.Y Y.mv ?_
  obtain ⟨t359, hc4, h⟩ := Option.bind_eq_some_iff.1 h
  repeat (first | (rw [iN] at h; obtain ⟨_, h⟩ := h) | (rw [iP] at h; obtain ⟨_, h⟩ := h) | (simp only [bS] at h))
  refine L.C (C.callE (l := true) [] Tryd.func83 (impl_Order_choice.ac _ _ _ _ _ hc4) .nil ?_)
  refine L.M (M.bs Tryd.underlying22 Y3) ?_
  refine L.S (S.ap (nn' := true) Tryd.underlying22 Y3) ?_
  refine L.Y Y.asg ?_
  refine AList.nil ?_
  refine W.kp [1, 2, 3, 4, 8, 9, 10] ?_
  refine AWp.region ?_
  refine L.Y Y.bin ?_
  refine L.Y Y.mv ?_
  refine AList.nil ?_
  exact ⟨k1, by omega, _, _, ⟨by omega, _, _, _, _, rfl, rfl, h⟩, IsPart.at [] [0, 1] base0 (H.c (H.c .nil)) (E.c (E.c (E.c (E.c (E.c .nil)))))⟩
 ·
  have hb3 := hb
  try simp only [hS, hE, ne_eq] at hb
  first | rw [if_pos hb3] at h | rw [if_neg (Bool.eq_false_iff.1 hb3)] at h | rw [if_pos hb] at h | rw [if_neg hb] at h | (simp only [hb, hT, reduceIte] at h) | skip
  refine AWp.exit ?_
  refine AWp.seq ?_
  refine AWp.region ?_
  refine L.Y Y.mv ?_
  refine L.Y Y.asg ?_
  refine AList.nil ?_
  obtain rfl := Option.some.inj h
  refine AWp.ret ?_
  exact ⟨.inr rfl, [(2, _)], _, ⟨rfl, rfl⟩, IsPart.at [] [1] base0 (H.c .nil) (E.c .nil)⟩

/-! ### impl_IsRational: function 48 -/
def impl_IsRational.f (k : Nat) (a0 : Int) (l1 : List Int) : Option (Bool × Bool) := (impl_isChoice.f k a0 l1).bind fun t363 => (if t363 = true then ((impl_revealed.f k a0 l1).bind fun bt364 => ((impl_Order_acyclic.f k bt364.1 bt364.2).bind fun t369 => (if t369 = true then ((impl_Order_choices.f k bt364.1 bt364.2).bind fun t370 => ((slices_Equal_int_int.f k t370 l1).bind fun t373 => (some (t373, true)))) else (some (false, true))))) else (some (false, false)))
set_option maxRecDepth 100000 in
set_option maxHeartbeats 20000000 in
theorem impl_IsRational.ac (k : Nat) (a0 : Int) (l1 : List Int) (r1 : Bool) (r2 : Bool) (h : impl_IsRational.f k a0 l1 = some (r1, r2)) :
  ACalls Tryd.prog 48 [.lit (.int .i64 a0), .row 1 l1.length false (ints .i64 l1)] [] (fun v H' => v = .tup [.lit (.bool r1), .lit (.bool r2)] ∧ H' = []) := by
 refine ACalls.ofP [4, 5] Tryd.func48 rfl (by exact Nat.le_of_ble_eq_true rfl) rfl (by decide) ?_
 simp only [Tryd.ntmps48, env0, impl_IsRational.f] at h ⊢
 refine AWp.seq ?_
 refine AWp.region ?_
 refine L.Y Y.asg ?_
 refine L.Y Y.asg ?_
 refine AList.nil ?_
 refine AWp.seq ?_
 refine AWp.seq ?_
 refine AWp.region ?_
 refine L.Y Y.mv ?_
 refine L.Y Y.mv ?_
 obtain ⟨t363, hc1, h⟩ := Option.bind_eq_some_iff.1 h
 refine L.C (C.callE (l := true) [] Tryd.func106 (impl_isChoice.ac _ _ _ _ hc1) .nil ?_)
 refine L.Y Y.nt ?_
 refine AList.nil ?_
 refine W.cond (fun hb => ?_) (fun hb => ?_)
 ·
  have hb2 := hb
  try simp only [hS, hE, ne_eq] at hb
  first | rw [if_pos hb2] at h | rw [if_neg (Bool.eq_false_iff.1 hb2)] at h | rw [if_pos hb] at h | rw [if_neg hb] at h | (simp only [hb, hT, reduceIte] at h) | skip
  refine AWp.seq ?_
  refine AWp.region ?_
  refine L.Y Y.asg ?_
  refine L.Y Y.asg ?_
  refine AList.nil ?_
  simp only [Option.some.injEq, Prod.mk.injEq] at h
  obtain ⟨rfl, rfl⟩ := h
  refine AWp.ret ?_
  exact ⟨.inr rfl, [(4, _), (5, _)], _, ⟨rfl, rfl⟩, IsPart.at [] [] base0 .nil (E.c (E.c .nil))⟩
 ·
  have hb2 := hb
  try simp only [hS, hE, ne_eq] at hb
  first | rw [if_pos hb2] at h | rw [if_neg (Bool.eq_false_iff.1 hb2)] at h | rw [if_pos hb] at h | rw [if_neg hb] at h | (simp only [hb, hT, reduceIte] at h) | skip
  refine AWp.skip ?_
  refine AWp.seq ?_
  refine AWp.region ?_
  refine L.Y Y.mv ?_
  refine L.Y Y.mv ?_
  obtain ⟨⟨t364, t365⟩, hc3, h⟩ := Option.bind_eq_some_iff.1 h
  dsimp only at h
  refine L.C (C.callE (l := true) [] Tryd.func107 (impl_revealed.ac _ _ _ _ _ hc3) .nil ?_)
  refine L.M (M.al Y30) ?_
  refine L.S (S.stb Y30) ?_
  refine AList.nil ?_
  refine AWp.seq ?_
  refine W.kp [0, 1, 4, 5, 6, 10] ?_
  refine AWp.region ?_
  refine L.S (S.ldN Tryd.underlying30 Y30) ?_
  obtain ⟨t369, hc4, h⟩ := Option.bind_eq_some_iff.1 h
  refine L.C (C.callE (l := true) [] Tryd.func86 (impl_Order_acyclic.ac _ _ _ _ hc4) .nil ?_)
  refine L.Y Y.mv ?_
  refine L.Gc (fun hb => ?_) (fun hb => ?_)
  ·
   have hb5 := hb
   try simp only [hS, hE, ne_eq] at hb
   first | rw [if_pos hb5] at h | rw [if_neg (Bool.eq_false_iff.1 hb5)] at h | rw [if_pos hb] at h | rw [if_neg hb] at h | (simp only [hb, hT, reduceIte] at h) | skip
   refine L.Gs hb5 (S.ldN Tryd.underlying30 Y30) ?_
   obtain ⟨t370, hc6, h⟩ := Option.bind_eq_some_iff.1 h
   refine L.GC hb5 (C.callE (l := true) [] Tryd.func109 (impl_Order_choices.ac _ _ _ _ hc6) .nil ?_)
   refine L.Gy hb5 Y.mv ?_
   obtain ⟨t373, hc7, h⟩ := Option.bind_eq_some_iff.1 h
   refine L.GC hb5 (C.callE (l := true) [] Tryd.func108 (slices_Equal_int_int.ac _ _ _ _ hc7) .nil ?_)
   refine L.Y (Y.pk (c := true) hb5) ?_
   refine L.Y Y.asg ?_
   refine L.Y Y.asg ?_
   refine AList.nil ?_
   simp only [Option.some.injEq, Prod.mk.injEq] at h
   obtain ⟨rfl, rfl⟩ := h
   refine AWp.ret ?_
   exact ⟨.inr rfl, [(4, _), (5, _)], _, ⟨rfl, rfl⟩, IsPart.at [] [] base0 .nil (E.c (E.c .nil))⟩
  ·
   have hb5 := hb
   try simp only [hS, hE, ne_eq] at hb
   first | rw [if_pos hb5] at h | rw [if_neg (Bool.eq_false_iff.1 hb5)] at h | rw [if_pos hb] at h | rw [if_neg hb] at h | (simp only [hb, hT, reduceIte] at h) | skip
   refine L.Gn hb5 ?_
   refine L.Gn hb5 ?_
   refine L.Gn hb5 ?_
   refine L.Gn hb5 ?_
   refine L.Y (Y.pk (c := false) hb5) ?_
   refine L.Y Y.asg ?_
   refine L.Y Y.asg ?_
   refine AList.nil ?_
   simp only [Option.some.injEq, Prod.mk.injEq] at h
   obtain ⟨rfl, rfl⟩ := h
   refine AWp.ret ?_
   exact ⟨.inr rfl, [(4, _), (5, _)], _, ⟨rfl, rfl⟩, IsPart.at [] [] base0 .nil (E.c (E.c .nil))⟩

end Go.Proofs.YtpippjgphndjmaaDoor.PFnRationalTables
