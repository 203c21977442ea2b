-- Written by a program of this session's (wip/myprint2): the functions by the kit's print, the walks by awgen.py. Lean checks it.
import Derived.Test.YtakabmokpknknaaDoorPFnTablesOfRelationsx0
import Derived.Test.YtakabmokpknknaaDoorPFnTablesOfRelationsx1
import Derived.Test.YtakabmokpknknaaDoorPFnTablesOfRelationsx5
import Derived.Test.YtakabmokpknknaaDoorPFnTablesOfRelationsx6
import Derived.Test.YtakabmokpknknaaDoorPFnTablesOfRelationsx7
import Derived.Test.YtakabmokpknknaaDoorPFnTablesOfRelationsx10
import Derived.Test.YtakabmokpknknaaDoorPFnTablesOfRelationsx11
namespace Go.Proofs.YtakabmokpknknaaDoor.PFnTablesOfRelations
open Go.RowKit Go.Proofs.YtakabmokpknknaaDoorW.PrintWords Go.Proofs.YtakabmokpknknaaDoorW.PrintLast Go.Proofs.YtakabmokpknknaaDoorW.PrintMore Go.Proofs.YtakabmokpknknaaDoorM Go.Proofs.YtakabmokpknknaaDoorA Go.Proofs.YtakabmokpknknaaDoorT
attribute [local go_sem] max2_int min2_int max_two min_two max_three min_three max_four min_four   -- for this text's walks alone
set_option linter.unusedVariables false
set_option linter.unusedSimpArgs false

/-! ### impl_fails: function 102 -/
mutual
def impl_fails.l0 : Nat → List Int → (Int → Int → Option Bool) → Int → Int → Option (Int × Int × Bool)
 | 0, _, _, _, _ => none
 | k + 1, x1, x2, x16, x17 => if x17 < x16 then (impl_fails.l1 k x1 x2 x17 x16 x17 (x1.length : Int) 0) else (some (0, 0, false))
def impl_fails.l1 : Nat → List Int → (Int → Int → Option Bool) → Int → Int → Int → Int → Int → Option (Int × Int × Bool)
 | 0, _, _, _, _, _, _, _ => none
 | k + 1, x1, x2, x9, x16, x17, x21, x22 => if x22 < x21 then ((x2 x9 x22).bind fun t480 => (if t480 = true then (some (x9, x22, true)) else (impl_fails.l1 k x1 x2 x9 x16 x17 x21 (wrap64 (x22 + 1))))) else (impl_fails.l0 k x1 x2 x16 (wrap64 (x17 + 1)))
end
def impl_fails.f (k : Nat) (a0 : Int) (l1 : List Int) (a2 : (Int → Int → Option Bool)) : Option (Int × Int × Bool) := (impl_isChoice.f k a0 l1).bind fun t479 => (if t479 = true then (impl_fails.l0 k l1 a2 (l1.length : Int) 0) else (some (0, 0, false)))
set_option maxRecDepth 100000 in
set_option maxHeartbeats 20000000 in
theorem impl_fails.ac (k : Nat) (a0 : Int) (l1 : List Int) (a2 : Int → Int → Option Bool) (r1 : Int) (r2 : Int) (r3 : Bool) (h : impl_fails.f k a0 l1 a2 = some (r1, r2, r3)) (F2 : FuncId) (cs2 : List AV) (hF2 : FnOk Tryd.prog F2) (hnf2 : noids cs2 = true) (hcf2 : ∀ x_ y_ r_, a2 x_ y_ = some r_ → ACalls Tryd.prog F2 (.lit (.int .i64 x_) :: .lit (.int .i64 y_) :: cs2) [] (fun v H' => v = .lit (.bool r_) ∧ H' = [])) :
  ACalls Tryd.prog 102 [.lit (.int .i64 a0), .row 1 l1.length false (ints .i64 l1), .fn F2 cs2] [] (fun v H' => v = .tup [.lit (.int .i64 r1), .lit (.int .i64 r2), .lit (.bool r3)] ∧ H' = []) := by
 obtain ⟨fn2, hff2, hnm2, hbd2⟩ := id hF2
 refine ACalls.ofP [6, 7, 8] Tryd.func102 rfl (by exact Nat.le_of_ble_eq_true rfl) rfl (by decide) ?_
 simp only [Tryd.ntmps102, env0, impl_fails.f] at h ⊢
 refine AWp.seq ?_
 refine AWp.region ?_
 refine L.Y Y.asg ?_
 refine L.Y Y.asg ?_
 refine L.Y Y.asg ?_
 refine AList.nil ?_
 refine AWp.seq ?_
 refine AWp.seq ?_
 refine AWp.region ?_
 refine L.Y Y.mv ?_
 refine L.Y Y.mv ?_
 replace h := Option.bind_eq_some_iff.1 h
 obtain ⟨t479, hc1, h⟩ := h
 refine L.C (C.callE (l := true) [] Tryd.func99 (impl_isChoice.ac _ _ _ _ hc1) .nil ?_)
 refine L.Y Y.nt ?_
 refine AList.nil ?_
 refine W.cond (fun hb => ?_) (fun hb => ?_)
 ·
  have hb2 := hb
  try simp only [hS, hE, ne_eq] at hb
  first | rw [if_pos hb2] at h | rw [if_neg (Bool.eq_false_iff.1 hb2)] at h | rw [if_pos hb] at h | rw [if_neg hb] at h | (simp only [hb, hT, reduceIte] at h) | skip
  refine AWp.seq ?_
  refine AWp.region ?_
  refine L.Y Y.asg ?_
  refine L.Y Y.asg ?_
  refine L.Y Y.asg ?_
  refine AList.nil ?_
  simp only [Option.some.injEq, Prod.mk.injEq] at h
  obtain ⟨rfl, rfl, rfl⟩ := h
  refine AWp.ret ?_
  exact ⟨.inr rfl, [(6, _), (7, _), (8, _)], _, ⟨rfl, rfl⟩, IsPart.at [] [] base0 .nil (E.c (E.c (E.c .nil)))⟩
 ·
  have hb2 := hb
  try simp only [hS, hE, ne_eq] at hb
  first | rw [if_pos hb2] at h | rw [if_neg (Bool.eq_false_iff.1 hb2)] at h | rw [if_pos hb] at h | rw [if_neg hb] at h | (simp only [hb, hT, reduceIte] at h) | skip
  refine AWp.skip ?_
  refine AWp.seq ?_
  refine AWp.seq ?_
  refine AWp.region ?_
  refine L.Y Y.mv ?_
  refine L.Y (Y.ln Tryd.underlying22) ?_
  refine L.Y Y.mv ?_
  refine AList.nil ?_
  refine AWp.block ?_
  refine AWp.loopI (fun kk e H => kk ≤ k ∧ ∃ (x16 : Int) (x17 : Int), e = [(1, .row 1 l1.length false (ints .i64 l1)), (2, .fn F2 cs2), (16, .lit (.int .i64 x16)), (17, .lit (.int .i64 x17))] ∧ H = [] ∧ impl_fails.l0 kk l1 a2 x16 x17 = some (r1, r2, r3)) (k := k)
   ⟨_, _, ⟨Nat.le_refl _, _, _, rfl, rfl, h⟩, IsPart.at [] [] base0 .nil (E.c (E.c (E.c (E.c .nil))))⟩ ?_
  clear h
  rintro k3 e H ⟨hk4, x16, x17, rfl, rfl, h⟩
  cases k3 with
  | zero => exact absurd h (by simp [impl_fails.l0])
  | succ k3 =>
  simp only [impl_fails.l0] at h
  refine AWp.seq ?_
  refine AWp.region ?_
  refine L.Y Y.bin ?_
  refine AList.nil ?_
  refine AWp.seq ?_
  refine W.cond (fun hb => ?_) (fun hb => ?_)
  ·
   have hb5 := hb
   try simp only [hS, hE, ne_eq] at hb
   first | rw [if_pos hb5] at h | rw [if_neg (Bool.eq_false_iff.1 hb5)] at h | rw [if_pos hb] at h | rw [if_neg hb] at h | (simp only [hb, hT, reduceIte] at h) | skip
   refine AWp.skip ?_
   refine AWp.seq ?_
   refine AWp.block ?_
   refine AWp.seq ?_
   refine AWp.region ?_
   refine L.Y Y.mv ?_
   refine L.Y Y.asg ?_
   refine AList.nil ?_
   refine AWp.seq ?_
   refine AWp.region ?_
   refine L.Y Y.mv ?_
   refine L.Y (Y.ln Tryd.underlying22) ?_
   refine L.Y Y.mv ?_
   refine AList.nil ?_
   refine AWp.block ?_
   refine AWp.loopI (fun kk e H => kk ≤ k3 ∧ ∃ (x9 : Int) (x16 : Int) (x17 : Int) (x21 : Int) (x22 : Int), e = [(1, .row 1 l1.length false (ints .i64 l1)), (2, .fn F2 cs2), (9, .lit (.int .i64 x9)), (16, .lit (.int .i64 x16)), (17, .lit (.int .i64 x17)), (21, .lit (.int .i64 x21)), (22, .lit (.int .i64 x22))] ∧ H = [] ∧ impl_fails.l1 kk l1 a2 x9 x16 x17 x21 x22 = some (r1, r2, r3)) (k := k3)
    ⟨_, _, ⟨Nat.le_refl _, _, _, _, _, _, rfl, rfl, h⟩, IsPart.at [] [] base0 .nil (E.c (E.c (E.c (E.c (E.c (E.c (E.c .nil)))))))⟩ ?_
   clear h
   rintro k6 e H ⟨hk7, x9, x16, x17, x21, x22, rfl, rfl, h⟩
   cases k6 with
   | zero => exact absurd h (by simp [impl_fails.l1])
   | succ k6 =>
   simp only [impl_fails.l1] at h
   refine AWp.seq ?_
   refine AWp.region ?_
   refine L.Y Y.bin ?_
   refine AList.nil ?_
   refine AWp.seq ?_
   refine W.cond (fun hb => ?_) (fun hb => ?_)
   ·
    have hb8 := hb
    try simp only [hS, hE, ne_eq] at hb
    first | rw [if_pos hb8] at h | rw [if_neg (Bool.eq_false_iff.1 hb8)] at h | rw [if_pos hb] at h | rw [if_neg hb] at h | (simp only [hb, hT, reduceIte] at h) | skip
    refine AWp.skip ?_
    refine AWp.seq ?_
    refine AWp.block ?_
    refine AWp.seq ?_
    refine AWp.region ?_
    refine L.Y Y.mv ?_
    refine L.Y Y.asg ?_
    refine AList.nil ?_
    refine AWp.seq ?_
    refine AWp.region ?_
    refine L.Y Y.mv ?_
    refine L.Y Y.mv ?_
    refine L.Y Y.mv ?_
    replace h := Option.bind_eq_some_iff.1 h
    obtain ⟨t480, hc9, h⟩ := h
    refine L.C (C.callE (l := true) [] hff2 (hcf2 _ _ _ hc9) .nil ?_ (hname := hnm2) (hb := hbd2))
    refine AList.nil ?_
    refine W.cond (fun hb => ?_) (fun hb => ?_)
    ·
     have hb10 := hb
     try simp only [hS, hE, ne_eq] at hb
     first | rw [if_pos hb10] at h | rw [if_neg (Bool.eq_false_iff.1 hb10)] at h | rw [if_pos hb] at h | rw [if_neg hb] at h | (simp only [hb, hT, reduceIte] at h) | skip
     refine AWp.seq ?_
     refine W.kp [1, 2, 9, 10, 16, 17, 21, 22, 23, 28] ?_
     refine AWp.region ?_
     refine L.Y Y.mv ?_
     refine L.Y Y.mv ?_
     refine L.Y Y.asg ?_
     refine L.Y Y.asg ?_
     refine L.Y Y.asg ?_
     refine AList.nil ?_
     simp only [Option.some.injEq, Prod.mk.injEq] at h
     obtain ⟨rfl, rfl, rfl⟩ := h
     refine AWp.ret ?_
     exact ⟨.inr rfl, [(6, _), (7, _), (8, _)], _, ⟨rfl, rfl⟩, IsPart.at [] [] base0 .nil (E.c (E.c (E.c .nil)))⟩
    ·
     have hb10 := hb
     try simp only [hS, hE, ne_eq] at hb
     first | rw [if_pos hb10] at h | rw [if_neg (Bool.eq_false_iff.1 hb10)] at h | rw [if_pos hb] at h | rw [if_neg hb] at h | (simp only [hb, hT, reduceIte] at h) | skip
     refine AWp.skip ?_
     refine W.kp [1, 2, 9, 10, 16, 17, 21, 22, 23, 28] ?_
     refine AWp.region ?_
     refine L.Y Y.bin ?_
     refine L.Y Y.mv ?_
     refine AList.nil ?_
     exact ⟨k6, by omega, _, _, ⟨by omega, _, _, _, _, _, rfl, rfl, h⟩, IsPart.at [] [] base0 .nil (E.c (E.c (E.c (E.c (E.c (E.c (E.c .nil)))))))⟩
   ·
    have hb8 := hb
    try simp only [hS, hE, ne_eq] at hb
    first | rw [if_pos hb8] at h | rw [if_neg (Bool.eq_false_iff.1 hb8)] at h | rw [if_pos hb] at h | rw [if_neg hb] at h | (simp only [hb, hT, reduceIte] at h) | skip
    refine AWp.exit ?_
    refine AWp.region ?_
    refine L.Y Y.bin ?_
    refine L.Y Y.mv ?_
    refine AList.nil ?_
    exact ⟨k6, by omega, _, _, ⟨by omega, _, _, rfl, rfl, h⟩, IsPart.at [] [] base0 .nil (E.c (E.c (E.c (E.c .nil))))⟩
  ·
   have hb5 := hb
   try simp only [hS, hE, ne_eq] at hb
   first | rw [if_pos hb5] at h | rw [if_neg (Bool.eq_false_iff.1 hb5)] at h | rw [if_pos hb] at h | rw [if_neg hb] at h | (simp only [hb, hT, reduceIte] at h) | skip
   refine AWp.exit ?_
   refine AWp.seq ?_
   refine AWp.region ?_
   refine L.Y Y.asg ?_
   refine L.Y Y.asg ?_
   refine L.Y Y.asg ?_
   refine AList.nil ?_
   simp only [Option.some.injEq, Prod.mk.injEq] at h
   obtain ⟨rfl, rfl, rfl⟩ := h
   refine AWp.ret ?_
   exact ⟨.inr rfl, [(6, _), (7, _), (8, _)], _, ⟨rfl, rfl⟩, IsPart.at [] [] base0 .nil (E.c (E.c (E.c .nil)))⟩

/-! ### impl_PathFails_1: function 103 -/
def impl_PathFails_1.f (a0 : Int) (a1 : Int) (l2_0 : List Int) : Option (Bool) := if 0 ≤ (Go.bits .or .i64 a0 a1) then (if (Go.bits .or .i64 a0 a1) < (l2_0.length : Int) then (if 0 ≤ a0 then (if a0 < (l2_0.length : Int) then (if 0 ≤ a1 then (if a1 < (l2_0.length : Int) then (if 0 ≤ (Go.bits .or .i64 (rd l2_0 a0) (rd l2_0 a1)) then (if (Go.bits .or .i64 (rd l2_0 a0) (rd l2_0 a1)) < (l2_0.length : Int) then (some ((rd l2_0 (Go.bits .or .i64 a0 a1)) != (rd l2_0 (Go.bits .or .i64 (rd l2_0 a0) (rd l2_0 a1))))) else (none)) else (none)) else (none)) else (none)) else (none)) else (none)) else (none)) else (none)
set_option maxRecDepth 100000 in
set_option maxHeartbeats 20000000 in
theorem impl_PathFails_1.ac (a0 : Int) (a1 : Int) (l2_0 : List Int) (r : Bool) (h : impl_PathFails_1.f a0 a1 l2_0 = some r) :
  ACalls Tryd.prog 103 [.lit (.int .i64 a0), .lit (.int .i64 a1), .rptr [.row 1 l2_0.length false (ints .i64 l2_0)]] [] (fun v H' => v = .lit (.bool r) ∧ H' = []) := by
 refine ACalls.ofP [5] Tryd.func103 rfl (by exact Nat.le_of_ble_eq_true rfl) rfl (by decide) ?_
 simp only [Tryd.ntmps103, env0, impl_PathFails_1.f] at h ⊢
 repeat (first | (rw [iN] at h; obtain ⟨_, h⟩ := h) | (rw [iP] at h; obtain ⟨_, h⟩ := h) | (simp only [bS] at h))
 refine AWp.seq ?_
 refine AWp.region ?_
 refine L.Y Y.asg ?_
 refine AList.nil ?_
 refine AWp.seq ?_
 refine Dt.reg [] [] (.t 0 (.y 1 (.y 2 (.y 3 (.y 4 (.t 5 (.t 6 (.t 7 (.y 8 (.y 9 (.t 10 (.t 11 (.y 12 (.y 13 (.t 14 (.y 15 (.y 16 (.t 17 (.y 18 (.y 19 .done)))))))))))))))))))) HM ?_
 refine Dt.T rfl wantN (D.ld Tryd.underlying22) ?_
 refine Dt.Y rfl wantN Y.mv ?_
 refine Dt.Y rfl wantN Y.mv ?_
 refine Dt.Y rfl wantN Y.bin ?_
 refine Dt.Y rfl wantN (Y.ixr Tryd.underlying22 Y3) ?_
 refine Dt.T rfl wantN (D.ld Tryd.underlying3) ?_
 refine Dt.T rfl wantN (D.ld Tryd.underlying22) ?_
 refine Dt.T rfl wantN (D.ld Tryd.underlying22) ?_
 refine Dt.Y rfl wantN Y.mv ?_
 refine Dt.Y rfl wantN (Y.ixr Tryd.underlying22 Y3) ?_
 refine Dt.T rfl wantN (D.ld Tryd.underlying3) ?_
 refine Dt.T rfl wantN (D.ld Tryd.underlying22) ?_
 refine Dt.Y rfl wantN Y.mv ?_
 refine Dt.Y rfl wantN (Y.ixr Tryd.underlying22 Y3) ?_
 refine Dt.T rfl wantN (D.ld Tryd.underlying3) ?_
 refine Dt.Y rfl wantN Y.bin ?_
 refine Dt.Y rfl wantN (Y.ixr Tryd.underlying22 Y3) ?_
 refine Dt.T rfl wantN (D.ld Tryd.underlying3) ?_
 refine Dt.Y rfl wantN Y.bin ?_
 refine Dt.Y rfl wantN Y.asg ?_
 refine Dt.nil ?_
 obtain rfl := Option.some.inj h
 refine AWp.ret ?_
 exact ⟨.inr rfl, [(5, _)], _, ⟨rfl, rfl⟩, IsPart.at [] [] base0 .nil (E.c .nil)⟩

/-! ### impl_PathFails: function 32 -/
def impl_PathFails.f (k : Nat) (a0 : Int) (l1 : List Int) : Option (Int × Int × Bool) := (impl_fails.f k a0 l1 (fun z0_ z1_ => impl_PathFails_1.f z0_ z1_ l1)).bind fun bt486 => (some (bt486.1, bt486.2.1, bt486.2.2))
set_option maxRecDepth 100000 in
set_option maxHeartbeats 20000000 in
theorem impl_PathFails.ac (k : Nat) (a0 : Int) (l1 : List Int) (r1 : Int) (r2 : Int) (r3 : Bool) (h : impl_PathFails.f k a0 l1 = some (r1, r2, r3)) :
  ACalls Tryd.prog 32 [.lit (.int .i64 a0), .row 1 l1.length false (ints .i64 l1)] [] (fun v H' => v = .tup [.lit (.int .i64 r1), .lit (.int .i64 r2), .lit (.bool r3)] ∧ H' = []) := by
 refine ACalls.ofP [4, 5, 6] Tryd.func32 rfl (by exact Nat.le_of_ble_eq_true rfl) rfl (by decide) ?_
 simp only [Tryd.ntmps32, env0, impl_PathFails.f] at h ⊢
 refine AWp.seq ?_
 refine AWp.region ?_
 refine L.M M.bx ?_
 refine L.Y Y.asg ?_
 refine L.Y Y.asg ?_
 refine L.Y Y.asg ?_
 refine AList.nil ?_
 refine AWp.seq ?_
 refine AWp.region ?_
 refine L.Y Y.mv ?_
 refine L.S (S.ld Tryd.underlying22) ?_
 refine L.Y Y.fn ?_
 replace h := Option.bind_eq_some_iff.1 h
 obtain ⟨⟨t486, t487, t488⟩, hc1, h⟩ := h
 dsimp only at h
 refine L.C (C.callE (l := true) [] Tryd.func102 (impl_fails.ac _ _ _ _ _ _ _ hc1 103 _ (FnOk.at_ Tryd.func103) (by simp [noids, noid, noids_ints]) (fun x_ y_ r_ h_ => impl_PathFails_1.ac x_ y_ _ r_ h_)) .nil ?_)
 refine L.Y Y.ex ?_
 refine L.Y Y.ex ?_
 refine L.Y Y.ex ?_
 refine L.Y Y.asg ?_
 refine L.Y Y.asg ?_
 refine L.Y Y.asg ?_
 refine AList.nil ?_
 simp only [Option.some.injEq, Prod.mk.injEq] at h
 obtain ⟨rfl, rfl, rfl⟩ := h
 refine AWp.ret ?_
 exact ⟨.inr rfl, [(4, _), (5, _), (6, _)], _, ⟨rfl, rfl⟩, IsPart.at [] [] base0 .nil (E.c (E.c (E.c .nil)))⟩

/-! ### spec_l1Cur_kind: function 91 -/
def spec_l1Cur_kind.f (s0_0 : List Int) (s0_1 : Int) (s0_2 : Int) : Option (Int × Int × Int) := (spec_l1Cur_one.f s0_0 s0_1 s0_2 15).bind fun bt489 => (if bt489.1 = true then ((spec_l1Cur_among.f s0_0 bt489.2.1 bt489.2.2 (([(-1), 4] : List Int))).bind fun bt495 => (some (bt495.1, bt495.2.1, bt495.2.2))) else ((spec_l1Cur_pick.f s0_0 bt489.2.1 bt489.2.2 4).bind fun bt498 => (some (bt498.1, bt498.2.1, bt498.2.2))))
set_option maxRecDepth 100000 in
set_option maxHeartbeats 20000000 in
theorem spec_l1Cur_kind.ac (s0_0 : List Int) (s0_1 : Int) (s0_2 : Int) (r1 : Int) (r2 : Int) (r3 : Int) (h : spec_l1Cur_kind.f s0_0 s0_1 s0_2 = some (r1, r2, r3)) :
  ACalls Tryd.prog 91 [.ptr 0 0] [.bx 106 [.row 1 s0_0.length false (ints .u8 s0_0), .lit (.int .i64 s0_1), .lit (.int .u64 s0_2)]] (fun v H' => v = .lit (.int .i64 r1) ∧ H' = [.bx 106 [.row 1 s0_0.length false (ints .u8 s0_0), .lit (.int .i64 r2), .lit (.int .u64 r3)]]) := by
 refine ACalls.ofP [2] Tryd.func91 rfl (by exact Nat.le_of_ble_eq_true rfl) rfl (by decide) ?_
 simp only [Tryd.ntmps91, env0, spec_l1Cur_kind.f] at h ⊢
 refine AWp.seq ?_
 refine AWp.region ?_
 refine L.Y Y.asg ?_
 refine AList.nil ?_
 refine AWp.seq ?_
 refine AWp.seq ?_
 refine AWp.region ?_
 refine L.Y Y.mv ?_
 replace h := Option.bind_eq_some_iff.1 h
 obtain ⟨⟨t489, t490, t491⟩, hc1, h⟩ := h
 dsimp only at h
 refine L.C (C.callE (l := false) [0] Tryd.func89 (spec_l1Cur_one.ac _ _ _ _ _ _ _ hc1) (H.c .nil) ?_)
 refine AList.nil ?_
 refine W.cond (fun hb => ?_) (fun hb => ?_)
 ·
  have hb2 := hb
  try simp only [hS, hE, ne_eq] at hb
  first | rw [if_pos hb2] at h | rw [if_neg (Bool.eq_false_iff.1 hb2)] at h | rw [if_pos hb] at h | rw [if_neg hb] at h | (simp only [hb, hT, reduceIte] at h) | skip
  repeat (first | (rw [iN] at h; obtain ⟨_, h⟩ := h) | (rw [iP] at h; obtain ⟨_, h⟩ := h) | (simp only [bS] at h))
  refine AWp.seq ?_
  refine AWp.region ?_
  refine L.Y Y.mv ?_
  refine L.M (M.bs Tryd.underlying22 Y3) ?_
  replace h := Option.bind_eq_some_iff.1 h
  obtain ⟨⟨t495, t496, t497⟩, hc3, h⟩ := h
  dsimp only at h
  refine L.C ?_
  refine C.frz 1 ?_
  refine C.callE (l := false) [0] Tryd.func93 (spec_l1Cur_among.ac _ _ _ _ _ _ _ hc3) (H.c .nil) ?_
  refine L.Y Y.asg ?_
  refine AList.nil ?_
  simp only [Option.some.injEq, Prod.mk.injEq] at h
  obtain ⟨rfl, rfl, rfl⟩ := h
  refine AWp.ret ?_
  exact ⟨.inr rfl, [(2, _)], _, ⟨rfl, rfl⟩, IsPart.at [] [0] base1 (H.c .nil) (E.c .nil)⟩
 ·
  have hb2 := hb
  try simp only [hS, hE, ne_eq] at hb
  first | rw [if_pos hb2] at h | rw [if_neg (Bool.eq_false_iff.1 hb2)] at h | rw [if_pos hb] at h | rw [if_neg hb] at h | (simp only [hb, hT, reduceIte] at h) | skip
  refine AWp.skip ?_
  refine AWp.seq ?_
  refine AWp.region ?_
  refine L.Y Y.mv ?_
  replace h := Option.bind_eq_some_iff.1 h
  obtain ⟨⟨t498, t499, t500⟩, hc4, h⟩ := h
  dsimp only at h
  refine L.C (C.callE (l := false) [0] Tryd.func94 (spec_l1Cur_pick.ac _ _ _ _ _ _ _ hc4) (H.c .nil) ?_)
  refine L.Y Y.asg ?_
  refine AList.nil ?_
  simp only [Option.some.injEq, Prod.mk.injEq] at h
  obtain ⟨rfl, rfl, rfl⟩ := h
  refine AWp.ret ?_
  exact ⟨.inr rfl, [(2, _)], _, ⟨rfl, rfl⟩, IsPart.at [] [0] base1 (H.c .nil) (E.c .nil)⟩

/-! ### spec_DrawCountChoices: function 34 -/
def spec_DrawCountChoices.f (l0 : List Int) : Option (Int × Int) := (spec_l1Cur_among.f l0 0 0 (([0, 1, 2, 3, 3, 4, 5, (-1)] : List Int))).bind fun bt505 => ((spec_l1Cur_kind.f l0 bt505.2.1 bt505.2.2).bind fun bt508 => (some (bt505.1, bt508.1)))
set_option maxRecDepth 100000 in
set_option maxHeartbeats 20000000 in
theorem spec_DrawCountChoices.ac (l0 : List Int) (r1 : Int) (r2 : Int) (h : spec_DrawCountChoices.f l0 = some (r1, r2)) :
  ACalls Tryd.prog 34 [.row 1 l0.length false (ints .u8 l0)] [] (fun v H' => v = .tup [.lit (.int .i64 r1), .lit (.int .i64 r2)] ∧ H' = []) := by
 refine ACalls.ofP [2, 3] Tryd.func34 rfl (by exact Nat.le_of_ble_eq_true rfl) rfl (by decide) ?_
 simp only [Tryd.ntmps34, env0, spec_DrawCountChoices.f] at h ⊢
 repeat (first | (rw [iN] at h; obtain ⟨_, h⟩ := h) | (rw [iP] at h; obtain ⟨_, h⟩ := h) | (simp only [bS] at h))
 refine AWp.seq ?_
 refine AWp.region ?_
 refine L.Y Y.asg ?_
 refine L.Y Y.asg ?_
 refine AList.nil ?_
 refine AWp.seq ?_
 refine AWp.region ?_
 refine L.Y Y.mv ?_
 refine L.Y (Y.bd Tryd.underlying106 Y106 P106) ?_
 refine L.M M.bx ?_
 refine L.Y Y.asg ?_
 refine AList.nil ?_
 refine AWp.seq ?_
 refine AWp.region ?_
 refine L.Y Y.mv ?_
 refine L.M (M.bs Tryd.underlying22 Y3) ?_
 replace h := Option.bind_eq_some_iff.1 h
 obtain ⟨⟨t505, t506, t507⟩, hc1, h⟩ := h
 dsimp only at h
 refine L.C ?_
 refine C.frz 1 ?_
 refine C.callE (l := false) [0] Tryd.func93 (spec_l1Cur_among.ac _ _ _ _ _ _ _ hc1) (H.c .nil) ?_
 refine L.Y Y.mv ?_
 replace h := Option.bind_eq_some_iff.1 h
 obtain ⟨⟨t508, t509, t510⟩, hc2, h⟩ := h
 dsimp only at h
 refine L.C (C.callE (l := false) [0] Tryd.func91 (spec_l1Cur_kind.ac _ _ _ _ _ _ hc2) (H.c .nil) ?_)
 refine L.Y Y.asg ?_
 refine L.Y Y.asg ?_
 refine AList.nil ?_
 simp only [Option.some.injEq, Prod.mk.injEq] at h
 obtain ⟨rfl, rfl⟩ := h
 refine AWp.ret ?_
 exact ⟨.inr rfl, [(2, _), (3, _)], _, ⟨rfl, rfl⟩, IsPart.at [] [] base0 .nil (E.c (E.c .nil))⟩

/-! ### impl_CountChoices: function 35 -/
def impl_CountChoices.f (k : Nat) (a0 : Int) (a1 : Int) : Option (Int × Bool) := (impl_isChoiceKind.f a0 a1).bind fun t511 => (if t511 = true then ((impl_ordersOf.f k a0 a1).bind fun t512 => (some ((t512.length : Int), true))) else (some (0, false)))
set_option maxRecDepth 100000 in
set_option maxHeartbeats 20000000 in
theorem impl_CountChoices.ac (k : Nat) (a0 : Int) (a1 : Int) (r1 : Int) (r2 : Bool) (h : impl_CountChoices.f k a0 a1 = some (r1, r2)) :
  ACalls Tryd.prog 35 [.lit (.int .i64 a0), .lit (.int .i64 a1)] [] (fun v H' => v = .tup [.lit (.int .i64 r1), .lit (.bool r2)] ∧ H' = []) := by
 refine ACalls.ofP [4, 5] Tryd.func35 rfl (by exact Nat.le_of_ble_eq_true rfl) rfl (by decide) ?_
 simp only [Tryd.ntmps35, env0, impl_CountChoices.f] at h ⊢
 refine AWp.seq ?_
 refine AWp.region ?_
 refine L.Y Y.asg ?_
 refine L.Y Y.asg ?_
 refine AList.nil ?_
 refine AWp.seq ?_
 refine AWp.seq ?_
 refine AWp.region ?_
 refine L.Y Y.mv ?_
 refine L.Y Y.mv ?_
 replace h := Option.bind_eq_some_iff.1 h
 obtain ⟨t511, hc1, h⟩ := h
 refine L.C (C.callE (l := true) [] Tryd.func83 (impl_isChoiceKind.ac _ _ _ hc1) .nil ?_)
 refine L.Y Y.nt ?_
 refine AList.nil ?_
 refine W.cond (fun hb => ?_) (fun hb => ?_)
 ·
  have hb2 := hb
  try simp only [hS, hE, ne_eq] at hb
  first | rw [if_pos hb2] at h | rw [if_neg (Bool.eq_false_iff.1 hb2)] at h | rw [if_pos hb] at h | rw [if_neg hb] at h | (simp only [hb, hT, reduceIte] at h) | skip
  refine AWp.seq ?_
  refine AWp.region ?_
  refine L.Y Y.asg ?_
  refine L.Y Y.asg ?_
  refine AList.nil ?_
  simp only [Option.some.injEq, Prod.mk.injEq] at h
  obtain ⟨rfl, rfl⟩ := h
  refine AWp.ret ?_
  exact ⟨.inr rfl, [(4, _), (5, _)], _, ⟨rfl, rfl⟩, IsPart.at [] [] base0 .nil (E.c (E.c .nil))⟩
 ·
  have hb2 := hb
  try simp only [hS, hE, ne_eq] at hb
  first | rw [if_pos hb2] at h | rw [if_neg (Bool.eq_false_iff.1 hb2)] at h | rw [if_pos hb] at h | rw [if_neg hb] at h | (simp only [hb, hT, reduceIte] at h) | skip
  refine AWp.skip ?_
  refine AWp.seq ?_
  refine AWp.region ?_
  refine L.Y Y.mv ?_
  refine L.Y Y.mv ?_
  replace h := Option.bind_eq_some_iff.1 h
  obtain ⟨t512, hc3, h⟩ := h
  refine L.C (C.callE (l := false) [] Tryd.func84 (impl_ordersOf.ac _ _ _ _ hc3) .nil ?_)
  refine L.Y (Y.ln Tryd.underlying39) ?_
  refine L.Y Y.asg ?_
  refine L.Y Y.asg ?_
  refine AList.nil ?_
  simp only [Option.some.injEq, Prod.mk.injEq] at h
  obtain ⟨rfl, rfl⟩ := h
  refine AWp.ret ?_
  exact ⟨.inr rfl, [(4, _), (5, _)], _, ⟨rfl, rfl⟩, IsPart.at [] [] base0 .nil (E.c (E.c .nil))⟩

/-! ### spec_cfSize: function 77 -/
def spec_cfSize.f (a0 : Int) : Option (Bool) := (spec_l1In.f a0 0 4).bind fun t515 => (some t515)
set_option maxRecDepth 100000 in
set_option maxHeartbeats 20000000 in
theorem spec_cfSize.ac (a0 : Int) (r : Bool) (h : spec_cfSize.f a0 = some r) :
  ACalls Tryd.prog 77 [.lit (.int .i64 a0)] [] (fun v H' => v = .lit (.bool r) ∧ H' = []) := by
 refine ACalls.ofP [2] Tryd.func77 rfl (by exact Nat.le_of_ble_eq_true rfl) rfl (by decide) ?_
 simp only [Tryd.ntmps77, env0, spec_cfSize.f] at h ⊢
 refine AWp.seq ?_
 refine AWp.region ?_
 refine L.Y Y.asg ?_
 refine AList.nil ?_
 refine AWp.seq ?_
 refine AWp.region ?_
 refine L.Y Y.mv ?_
 replace h := Option.bind_eq_some_iff.1 h
 obtain ⟨t515, hc1, h⟩ := h
 refine L.C (C.callE (l := true) [] Tryd.func148 (spec_l1In.ac _ _ _ _ hc1) .nil ?_)
 refine L.Y Y.asg ?_
 refine AList.nil ?_
 obtain rfl := Option.some.inj h
 refine AWp.ret ?_
 exact ⟨.inr rfl, [(2, _)], _, ⟨rfl, rfl⟩, IsPart.at [] [] base0 .nil (E.c .nil)⟩

/-! ### spec_cfKinds: function 78 -/
def spec_cfKinds.f (a0 : Int) : Option (Bool) := (spec_l1In.f a0 0 3).bind fun t516 => (some t516)
set_option maxRecDepth 100000 in
set_option maxHeartbeats 20000000 in
theorem spec_cfKinds.ac (a0 : Int) (r : Bool) (h : spec_cfKinds.f a0 = some r) :
  ACalls Tryd.prog 78 [.lit (.int .i64 a0)] [] (fun v H' => v = .lit (.bool r) ∧ H' = []) := by
 refine ACalls.ofP [2] Tryd.func78 rfl (by exact Nat.le_of_ble_eq_true rfl) rfl (by decide) ?_
 simp only [Tryd.ntmps78, env0, spec_cfKinds.f] at h ⊢
 refine AWp.seq ?_
 refine AWp.region ?_
 refine L.Y Y.asg ?_
 refine AList.nil ?_
 refine AWp.seq ?_
 refine AWp.region ?_
 refine L.Y Y.mv ?_
 replace h := Option.bind_eq_some_iff.1 h
 obtain ⟨t516, hc1, h⟩ := h
 refine L.C (C.callE (l := true) [] Tryd.func148 (spec_l1In.ac _ _ _ _ hc1) .nil ?_)
 refine L.Y Y.asg ?_
 refine AList.nil ?_
 obtain rfl := Option.some.inj h
 refine AWp.ret ?_
 exact ⟨.inr rfl, [(2, _)], _, ⟨rfl, rfl⟩, IsPart.at [] [] base0 .nil (E.c .nil)⟩

/-! ### spec_orGood: function 194 -/
mutual
def spec_orGood.l0 : Nat → List Int → Int → Int → Int → List Int → Option (Bool)
 | 0, _, _, _, _, _ => none
 | k + 1, x11, x12, x13, x518000, x518001 => if x13 < x12 then (if 0 ≤ x13 then (if x13 < (x11.length : Int) then ((spec_orHas.f (rd x11 x13) x13).bind fun t520 => (if t520 = true then (some false) else ((spec_orList.f k (rd x11 x13)).bind fun t521 => (spec_orGood.l1 k (rd x11 x13) x11 x12 x13 t521 (t521.length : Int) 0 x518000 x518001)))) else (none)) else (none)) else (some true)
def spec_orGood.l1 : Nat → Int → List Int → Int → Int → List Int → Int → Int → Int → List Int → Option (Bool)
 | 0, _, _, _, _, _, _, _, _, _ => none
 | k + 1, x4, x11, x12, x13, x22, x23, x24, x518000, x518001 => if x24 < x23 then (if 0 ≤ x24 then (if x24 < (x22.length : Int) then (if 0 ≤ (rd x22 x24) then (if (rd x22 x24) < (x518001.length : Int) then (if (Go.bits .andNot .i64 (rd x518001 (rd x22 x24)) x4) = 0 then (spec_orGood.l1 k x4 x11 x12 x13 x22 x23 (wrap64 (x24 + 1)) x518000 x518001) else (some false)) else (none)) else (none)) else (none)) else (none)) else (spec_orGood.l0 k x11 x12 (wrap64 (x13 + 1)) x518000 x518001)
end
def spec_orGood.f (k : Nat) (a0_0 : Int) (l0_1 : List Int) : Option (Bool) := (spec_orRelation.f k a0_0 l0_1).bind fun t518 => (if t518 = true then (spec_orGood.l0 k l0_1 (l0_1.length : Int) 0 a0_0 l0_1) else (some false))
set_option maxRecDepth 100000 in
set_option maxHeartbeats 20000000 in
theorem spec_orGood.ac (k : Nat) (a0_0 : Int) (l0_1 : List Int) (r : Bool) (h : spec_orGood.f k a0_0 l0_1 = some r) :
  ACalls Tryd.prog 194 [.agg [.lit (.int .i64 a0_0), .row 1 l0_1.length false (ints .i64 l0_1)]] [] (fun v H' => v = .lit (.bool r) ∧ H' = []) := by
 refine ACalls.ofP [2] Tryd.func194 rfl (by exact Nat.le_of_ble_eq_true rfl) rfl (by decide) ?_
 simp only [Tryd.ntmps194, env0, spec_orGood.f] at h ⊢
 refine AWp.seq ?_
 refine AWp.region ?_
 refine L.M M.bx ?_
 refine L.Y Y.asg ?_
 refine AList.nil ?_
 refine AWp.seq ?_
 refine AWp.seq ?_
 refine AWp.region ?_
 refine L.S (S.ldN Tryd.underlying26 Y26) ?_
 replace h := Option.bind_eq_some_iff.1 h
 obtain ⟨t518, hc1, h⟩ := h
 refine L.C (C.callE (l := true) [] Tryd.func76 (spec_orRelation.ac _ _ _ _ hc1) .nil ?_)
 refine L.Y Y.nt ?_
 refine AList.nil ?_
 refine W.cond (fun hb => ?_) (fun hb => ?_)
 ·
  have hb2 := hb
  try simp only [hS, hE, ne_eq] at hb
  first | rw [if_pos hb2] at h | rw [if_neg (Bool.eq_false_iff.1 hb2)] at h | rw [if_pos hb] at h | rw [if_neg hb] at h | (simp only [hb, hT, reduceIte] at h) | skip
  refine AWp.seq ?_
  refine AWp.region ?_
  refine L.Y Y.asg ?_
  refine AList.nil ?_
  obtain rfl := Option.some.inj h
  refine AWp.ret ?_
  exact ⟨.inr rfl, [(2, _)], _, ⟨rfl, rfl⟩, IsPart.at [] [] base0 .nil (E.c .nil)⟩
 ·
  have hb2 := hb
  try simp only [hS, hE, ne_eq] at hb
  first | rw [if_pos hb2] at h | rw [if_neg (Bool.eq_false_iff.1 hb2)] at h | rw [if_pos hb] at h | rw [if_neg hb] at h | (simp only [hb, hT, reduceIte] at h) | skip
  refine AWp.skip ?_
  refine AWp.seq ?_
  refine AWp.seq ?_
  refine AWp.region ?_
  refine L.Y (Y.fa (off := 1) Tryd.underlying26 Y22) ?_
  refine L.S (S.ld Tryd.underlying22) ?_
  refine L.Y (Y.ln Tryd.underlying22) ?_
  refine L.Y Y.mv ?_
  refine AList.nil ?_
  refine AWp.block ?_
  refine AWp.loopI (fun kk e H => kk ≤ k ∧ ∃ (x12 : Int) (x13 : Int) (x518000 : Int), e = [(1, .ptr 0 0), (11, .row 1 l0_1.length false (ints .i64 l0_1)), (12, .lit (.int .i64 x12)), (13, .lit (.int .i64 x13))] ∧ H = [.bx 26 [.lit (.int .i64 x518000), .row 1 l0_1.length false (ints .i64 l0_1)]] ∧ spec_orGood.l0 kk l0_1 x12 x13 x518000 l0_1 = some r) (k := k)
   ⟨_, _, ⟨Nat.le_refl _, _, _, _, rfl, rfl, h⟩, IsPart.at [] [0] base0 (H.c .nil) (E.c (E.c (E.c (E.c .nil))))⟩ ?_
  clear h
  rintro k3 e H ⟨hk4, x12, x13, x518000, rfl, rfl, h⟩
  cases k3 with
  | zero => exact absurd h (by simp [spec_orGood.l0])
  | succ k3 =>
  simp only [spec_orGood.l0] at h
  refine AWp.seq ?_
  refine AWp.region ?_
  refine L.Y Y.bin ?_
  refine AList.nil ?_
  refine AWp.seq ?_
  refine W.cond (fun hb => ?_) (fun hb => ?_)
  ·
   have hb5 := hb
   try simp only [hS, hE, ne_eq] at hb
   first | rw [if_pos hb5] at h | rw [if_neg (Bool.eq_false_iff.1 hb5)] at h | rw [if_pos hb] at h | rw [if_neg hb] at h | (simp only [hb, hT, reduceIte] at h) | skip
   repeat (first | (rw [iN] at h; obtain ⟨_, h⟩ := h) | (rw [iP] at h; obtain ⟨_, h⟩ := h) | (simp only [bS] at h))
   refine AWp.skip ?_
   refine AWp.seq ?_
   refine AWp.block ?_
   refine AWp.seq ?_
   refine AWp.region ?_
   refine L.Y Y.mv ?_
   refine L.Y (Y.ixr Tryd.underlying22 Y3) ?_
   refine L.S (S.ld Tryd.underlying3) ?_
   refine L.Y Y.asg ?_
   refine L.Y Y.asg ?_
   refine AList.nil ?_
   refine AWp.seq ?_
   refine AWp.seq ?_
   refine AWp.region ?_
   refine L.Y Y.mv ?_
   refine L.Y Y.mv ?_
   replace h := Option.bind_eq_some_iff.1 h
   obtain ⟨t520, hc6, h⟩ := h
   refine L.C (C.callE (l := true) [] Tryd.func152 (spec_orHas.ac _ _ _ hc6) .nil ?_)
   refine AList.nil ?_
   refine W.cond (fun hb => ?_) (fun hb => ?_)
   ·
    have hb7 := hb
    try simp only [hS, hE, ne_eq] at hb
    first | rw [if_pos hb7] at h | rw [if_neg (Bool.eq_false_iff.1 hb7)] at h | rw [if_pos hb] at h | rw [if_neg hb] at h | (simp only [hb, hT, reduceIte] at h) | skip
    refine AWp.seq ?_
    refine W.kp [1, 3, 4, 11, 12, 13, 14, 20] ?_
    refine AWp.region ?_
    refine L.Y Y.asg ?_
    refine AList.nil ?_
    obtain rfl := Option.some.inj h
    refine AWp.ret ?_
    exact ⟨.inr rfl, [(2, _)], _, ⟨rfl, rfl⟩, IsPart.at [] [] base0 .nil (E.c .nil)⟩
   ·
    have hb7 := hb
    try simp only [hS, hE, ne_eq] at hb
    first | rw [if_pos hb7] at h | rw [if_neg (Bool.eq_false_iff.1 hb7)] at h | rw [if_pos hb] at h | rw [if_neg hb] at h | (simp only [hb, hT, reduceIte] at h) | skip
    refine AWp.skip ?_
    refine AWp.seq ?_
    refine W.kp [1, 3, 4, 11, 12, 13, 14, 20] ?_
    refine AWp.region ?_
    refine L.Y Y.mv ?_
    replace h := Option.bind_eq_some_iff.1 h
    obtain ⟨t521, hc8, h⟩ := h
    refine L.C (C.callE (l := true) [] Tryd.func196 (spec_orList.ac _ _ _ hc8) .nil ?_)
    refine L.Y (Y.ln Tryd.underlying22) ?_
    refine L.Y Y.mv ?_
    refine AList.nil ?_
    refine AWp.block ?_
    refine AWp.loopI (fun kk e H => kk ≤ k3 ∧ ∃ (x4 : Int) (x12 : Int) (x13 : Int) (x22 : List Int) (x23 : Int) (x24 : Int) (x518000 : Int), e = [(1, .ptr 0 0), (4, .lit (.int .i64 x4)), (11, .row 1 l0_1.length false (ints .i64 l0_1)), (12, .lit (.int .i64 x12)), (13, .lit (.int .i64 x13)), (22, .own 1 x22.length), (23, .lit (.int .i64 x23)), (24, .lit (.int .i64 x24))] ∧ H = [.bx 26 [.lit (.int .i64 x518000), .row 1 l0_1.length false (ints .i64 l0_1)], .sl 3 1 x22.length false (ints .i64 x22)] ∧ spec_orGood.l1 kk x4 l0_1 x12 x13 x22 x23 x24 x518000 l0_1 = some r) (k := k3)
     ⟨_, _, ⟨Nat.le_refl _, _, _, _, _, _, _, _, rfl, rfl, h⟩, IsPart.at [] [0, 1] base0 (H.c (H.c .nil)) (E.c (E.c (E.c (E.c (E.c (E.c (E.c (E.c .nil))))))))⟩ ?_
    clear h
    rintro k9 e H ⟨hk10, x4, x12, x13, x22, x23, x24, x518000, rfl, rfl, h⟩
    cases k9 with
    | zero => exact absurd h (by simp [spec_orGood.l1])
    | succ k9 =>
    simp only [spec_orGood.l1] at h
    refine AWp.seq ?_
    refine AWp.region ?_
    refine L.Y Y.bin ?_
    refine AList.nil ?_
    refine AWp.seq ?_
    refine W.cond (fun hb => ?_) (fun hb => ?_)
    ·
     have hb11 := hb
     try simp only [hS, hE, ne_eq] at hb
     first | rw [if_pos hb11] at h | rw [if_neg (Bool.eq_false_iff.1 hb11)] at h | rw [if_pos hb] at h | rw [if_neg hb] at h | (simp only [hb, hT, reduceIte] at h) | skip
     repeat (first | (rw [iN] at h; obtain ⟨_, h⟩ := h) | (rw [iP] at h; obtain ⟨_, h⟩ := h) | (simp only [bS] at h))
     refine AWp.skip ?_
     refine AWp.seq ?_
     refine AWp.block ?_
     refine AWp.seq ?_
     refine AWp.region ?_
     refine L.Y (Y.ixo Tryd.underlying22 Y3) ?_
     refine L.S (S.ld Tryd.underlying3) ?_
     refine L.Y Y.asg ?_
     refine AList.nil ?_
     refine AWp.seq ?_
     refine AWp.region ?_
     refine L.Y (Y.fa (off := 1) Tryd.underlying26 Y22) ?_
     refine L.S (S.ld Tryd.underlying22) ?_
     refine L.Y Y.mv ?_
     refine L.Y (Y.ixr Tryd.underlying22 Y3) ?_
     refine L.S (S.ld Tryd.underlying3) ?_
     refine L.Y Y.mv ?_
     refine L.Y Y.bin ?_
     refine L.Y Y.bin ?_
     refine AList.nil ?_
     refine W.cond (fun hb => ?_) (fun hb => ?_)
     ·
      have hb12 := hb
      try simp only [hS, hE, ne_eq] at hb
      first | rw [if_pos hb12] at h | rw [if_neg (Bool.eq_false_iff.1 hb12)] at h | rw [if_pos hb] at h | rw [if_neg hb] at h | (simp only [hb, hT, reduceIte] at h) | skip
      refine AWp.seq ?_
      refine W.kp [1, 4, 6, 11, 12, 13, 22, 23, 24, 25, 35] ?_
      refine AWp.region ?_
      refine L.Y Y.asg ?_
      refine AList.nil ?_
      obtain rfl := Option.some.inj h
      refine AWp.ret ?_
      exact ⟨.inr rfl, [(2, _)], _, ⟨rfl, rfl⟩, IsPart.at [] [] base0 .nil (E.c .nil)⟩
     ·
      have hb12 := hb
      try simp only [hS, hE, ne_eq] at hb
      first | rw [if_pos hb12] at h | rw [if_neg (Bool.eq_false_iff.1 hb12)] at h | rw [if_pos hb] at h | rw [if_neg hb] at h | (simp only [hb, hT, reduceIte] at h) | skip
      refine AWp.skip ?_
      refine W.kp [1, 4, 6, 11, 12, 13, 22, 23, 24, 25, 35] ?_
      refine AWp.region ?_
      refine L.Y Y.bin ?_
      refine L.Y Y.mv ?_
      refine AList.nil ?_
      exact ⟨k9, by omega, _, _, ⟨by omega, _, _, _, _, _, _, _, rfl, rfl, h⟩, IsPart.at [] [0, 1] base0 (H.c (H.c .nil)) (E.c (E.c (E.c (E.c (E.c (E.c (E.c (E.c .nil))))))))⟩
    ·
     have hb11 := hb
     try simp only [hS, hE, ne_eq] at hb
     first | rw [if_pos hb11] at h | rw [if_neg (Bool.eq_false_iff.1 hb11)] at h | rw [if_pos hb] at h | rw [if_neg hb] at h | (simp only [hb, hT, reduceIte] at h) | skip
     refine AWp.exit ?_
     refine AWp.region ?_
     refine L.Y Y.bin ?_
     refine L.Y Y.mv ?_
     refine AList.nil ?_
     exact ⟨k9, by omega, _, _, ⟨by omega, _, _, _, rfl, rfl, h⟩, IsPart.at [] [0] base0 (H.c .nil) (E.c (E.c (E.c (E.c .nil))))⟩
  ·
   have hb5 := hb
   try simp only [hS, hE, ne_eq] at hb
   first | rw [if_pos hb5] at h | rw [if_neg (Bool.eq_false_iff.1 hb5)] at h | rw [if_pos hb] at h | rw [if_neg hb] at h | (simp only [hb, hT, reduceIte] at h) | skip
   refine AWp.exit ?_
   refine AWp.seq ?_
   refine AWp.region ?_
   refine L.Y Y.asg ?_
   refine AList.nil ?_
   obtain rfl := Option.some.inj h
   refine AWp.ret ?_
   exact ⟨.inr rfl, [(2, _)], _, ⟨rfl, rfl⟩, IsPart.at [] [] base0 .nil (E.c .nil)⟩

end Go.Proofs.YtakabmokpknknaaDoor.PFnTablesOfRelations
