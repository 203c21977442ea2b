-- Written by a program of this session's (wip/myprint2): the functions by the kit's print, the walks by awgen.py. Lean checks it.
import Derived.Test.YtpippjgphndjmaaDoorPFnRationalTablesx0
import Derived.Test.YtpippjgphndjmaaDoorPFnRationalTablesx1
import Derived.Test.YtpippjgphndjmaaDoorPFnRationalTablesx7
import Derived.Test.YtpippjgphndjmaaDoorPFnRationalTablesx8
import Derived.Test.YtpippjgphndjmaaDoorPFnRationalTablesx9
import Derived.Test.YtpippjgphndjmaaDoorPFnRationalTablesx10
namespace Go.Proofs.YtpippjgphndjmaaDoor.PFnRationalTables
open Go.RowKit Go.Proofs.YtpippjgphndjmaaDoorW.PrintWords Go.Proofs.YtpippjgphndjmaaDoorW.PrintLast Go.Proofs.YtpippjgphndjmaaDoorW.PrintMore Go.Proofs.YtpippjgphndjmaaDoorM Go.Proofs.YtpippjgphndjmaaDoorA Go.Proofs.YtpippjgphndjmaaDoorT
attribute [local go_sem] max2_int min2_int max_two min_two max_three min_three max_four min_four   -- for this text's walks alone
set_option linter.unusedVariables false
set_option linter.unusedSimpArgs false

/-! ### impl_GrowFails: function 52 -/
def impl_GrowFails.f (k : Nat) (a0 : Int) (l1 : List Int) : Option (Int × Int × Bool) := (impl_fails.f k a0 l1 (fun z0_ z1_ => impl_GrowFails_1.f z0_ z1_ l1)).bind fun bt426 => (some (bt426.1, bt426.2.1, bt426.2.2))
set_option maxRecDepth 100000 in
set_option maxHeartbeats 20000000 in
theorem impl_GrowFails.ac (k : Nat) (a0 : Int) (l1 : List Int) (r1 : Int) (r2 : Int) (r3 : Bool) (h : impl_GrowFails.f k a0 l1 = some (r1, r2, r3)) :
  ACalls Tryd.prog 52 [.lit (.int .i64 a0), .row 1 l1.length false (ints .i64 l1)] [] (fun v H' => v = .tup [.lit (.int .i64 r1), .lit (.int .i64 r2), .lit (.bool r3)] ∧ H' = []) := by
 refine ACalls.ofP [4, 5, 6] Tryd.func52 rfl (by exact Nat.le_of_ble_eq_true rfl) rfl (by decide) ?_
 simp only [Tryd.ntmps52, env0, impl_GrowFails.f] at h ⊢
 refine AWp.seq ?_
 refine AWp.region ?_
 refine L.M M.bx ?_
 refine L.Y Y.asg ?_
 refine L.Y Y.asg ?_
 refine L.Y Y.asg ?_
 refine AList.nil ?_
 refine AWp.seq ?_
 refine AWp.region ?_
 refine L.Y Y.mv ?_
 refine L.S (S.ld Tryd.underlying22) ?_
 refine L.Y Y.fn ?_
 obtain ⟨⟨t426, t427, t428⟩, hc1, h⟩ := Option.bind_eq_some_iff.1 h
 dsimp only at h
 refine L.C (C.callE (l := true) [] Tryd.func112 (impl_fails.ac _ _ _ _ _ _ _ hc1 115 _ (FnOk.at_ Tryd.func115) (by simp [noids, noid, noids_ints]) (fun x_ y_ r_ h_ => impl_GrowFails_1.ac x_ y_ _ r_ h_)) .nil ?_)
 refine L.Y Y.ex ?_
 refine L.Y Y.ex ?_
 refine L.Y Y.ex ?_
 refine L.Y Y.asg ?_
 refine L.Y Y.asg ?_
 refine L.Y Y.asg ?_
 refine AList.nil ?_
 simp only [Option.some.injEq, Prod.mk.injEq] at h
 obtain ⟨rfl, rfl, rfl⟩ := h
 refine AWp.ret ?_
 exact ⟨.inr rfl, [(4, _), (5, _), (6, _)], _, ⟨rfl, rfl⟩, IsPart.at [] [] base0 .nil (E.c (E.c (E.c .nil)))⟩

/-! ### spec_GrowFails: function 53 -/
def spec_GrowFails.f (k : Nat) (a0 : Int) (l1 : List Int) : Option (Int × Int × Bool) := (spec_cfPair.f k a0 l1 1).bind fun bt429 => (some (bt429.1, bt429.2.1, bt429.2.2))
set_option maxRecDepth 100000 in
set_option maxHeartbeats 20000000 in
theorem spec_GrowFails.ac (k : Nat) (a0 : Int) (l1 : List Int) (r1 : Int) (r2 : Int) (r3 : Bool) (h : spec_GrowFails.f k a0 l1 = some (r1, r2, r3)) :
  ACalls Tryd.prog 53 [.lit (.int .i64 a0), .row 1 l1.length false (ints .i64 l1)] [] (fun v H' => v = .tup [.lit (.int .i64 r1), .lit (.int .i64 r2), .lit (.bool r3)] ∧ H' = []) := by
 refine ACalls.ofP [4, 5, 6] Tryd.func53 rfl (by exact Nat.le_of_ble_eq_true rfl) rfl (by decide) ?_
 simp only [Tryd.ntmps53, env0, spec_GrowFails.f] at h ⊢
 refine AWp.seq ?_
 refine AWp.region ?_
 refine L.Y Y.asg ?_
 refine L.Y Y.asg ?_
 refine L.Y Y.asg ?_
 refine AList.nil ?_
 refine AWp.seq ?_
 refine AWp.region ?_
 refine L.Y Y.mv ?_
 refine L.Y Y.mv ?_
 obtain ⟨⟨t429, t430, t431⟩, hc1, h⟩ := Option.bind_eq_some_iff.1 h
 dsimp only at h
 refine L.C (C.callE (l := true) [] Tryd.func114 (spec_cfPair.ac _ _ _ _ _ _ _ hc1) .nil ?_)
 refine L.Y Y.ex ?_
 refine L.Y Y.ex ?_
 refine L.Y Y.ex ?_
 refine L.Y Y.asg ?_
 refine L.Y Y.asg ?_
 refine L.Y Y.asg ?_
 refine AList.nil ?_
 simp only [Option.some.injEq, Prod.mk.injEq] at h
 obtain ⟨rfl, rfl, rfl⟩ := h
 refine AWp.ret ?_
 exact ⟨.inr rfl, [(4, _), (5, _), (6, _)], _, ⟨rfl, rfl⟩, IsPart.at [] [] base0 .nil (E.c (E.c (E.c .nil)))⟩

/-! ### impl_OutcastFails_1: function 116 -/
def impl_OutcastFails_1.f (a0 : Int) (a1 : Int) (l2_0 : List Int) : Option (Bool) := if (Go.bits .andNot .i64 a1 a0) = 0 then (if 0 ≤ a0 then (if a0 < (l2_0.length : Int) then (if (Go.bits .andNot .i64 (rd l2_0 a0) a1) = 0 then (if 0 ≤ a1 then (if a1 < (l2_0.length : Int) then (some ((Go.bits .andNot .i64 (rd l2_0 a1) (rd l2_0 a0)) != 0)) else (none)) else (none)) else (some false)) else (none)) else (none)) else (some false)
set_option maxRecDepth 100000 in
set_option maxHeartbeats 20000000 in
theorem impl_OutcastFails_1.ac (a0 : Int) (a1 : Int) (l2_0 : List Int) (r : Bool) (h : impl_OutcastFails_1.f a0 a1 l2_0 = some r) :
  ACalls Tryd.prog 116 [.lit (.int .i64 a0), .lit (.int .i64 a1), .rptr [.row 1 l2_0.length false (ints .i64 l2_0)]] [] (fun v H' => v = .lit (.bool r) ∧ H' = []) := by
 refine ACalls.ofP [5] Tryd.func116 rfl (by exact Nat.le_of_ble_eq_true rfl) rfl (by decide) ?_
 simp only [Tryd.ntmps116, env0, impl_OutcastFails_1.f] at h ⊢
 refine AWp.seq ?_
 refine AWp.region ?_
 refine L.Y Y.asg ?_
 refine AList.nil ?_
 refine AWp.seq ?_
 refine Dt.reg [] [] (.y 0 (.y 1 (.y 2 (.y 3 (.y 4 (.t 5 (.y 6 (.y 7 (.t 8 (.y 9 (.y 10 (.y 11 (.y 12 (.y 13 (.t 14 (.y 15 (.y 16 (.t 17 (.t 18 (.y 19 (.y 20 (.t 21 (.y 22 (.y 23 (.y 24 (.y 25 .done)))))))))))))))))))))))))) HM ?_
 refine Dt.Y rfl wantN Y.mv ?_
 refine Dt.Y rfl wantN Y.mv ?_
 refine Dt.Y rfl wantN Y.bin ?_
 refine Dt.Y rfl wantN Y.bin ?_
 refine Dt.Y rfl wantN Y.mv ?_
 refine Dt.F 10 (fun hb => ?_) (fun hb => ?_)
 ·
  have hb1 := hb
  try simp only [hS, hE, ne_eq] at hb
  first | rw [if_pos hb1] at h | rw [if_neg (Bool.eq_false_iff.1 hb1)] at h | rw [if_pos hb] at h | rw [if_neg hb] at h | (simp only [hb, hT, reduceIte] at h) | skip
  repeat (first | (rw [iN] at h; obtain ⟨_, h⟩ := h) | (rw [iP] at h; obtain ⟨_, h⟩ := h) | (simp only [bS] at h))
  refine Dt.T rfl (wantY hb1) (D.ld Tryd.underlying22) ?_
  refine Dt.Y rfl (wantY hb1) Y.mv ?_
  refine Dt.Y rfl (wantY hb1) (Y.ixr Tryd.underlying22 Y3) ?_
  refine Dt.T rfl (wantY hb1) (D.ld Tryd.underlying3) ?_
  refine Dt.Y rfl (wantY hb1) Y.mv ?_
  refine Dt.Y rfl (wantY hb1) Y.bin ?_
  refine Dt.Y rfl (wantY hb1) Y.bin ?_
  refine Dt.Y rfl wantN (Y.pk (c := true) hb1) ?_
  refine Dt.Y rfl wantN Y.mv ?_
  refine Dt.F 19 (fun hb => ?_) (fun hb => ?_)
  ·
   have hb2 := hb
   try simp only [hS, hE, ne_eq] at hb
   first | rw [if_pos hb2] at h | rw [if_neg (Bool.eq_false_iff.1 hb2)] at h | rw [if_pos hb] at h | rw [if_neg hb] at h | (simp only [hb, hT, reduceIte] at h) | skip
   repeat (first | (rw [iN] at h; obtain ⟨_, h⟩ := h) | (rw [iP] at h; obtain ⟨_, h⟩ := h) | (simp only [bS] at h))
   refine Dt.T rfl (wantY hb2) (D.ld Tryd.underlying22) ?_
   refine Dt.Y rfl (wantY hb2) Y.mv ?_
   refine Dt.Y rfl (wantY hb2) (Y.ixr Tryd.underlying22 Y3) ?_
   refine Dt.T rfl (wantY hb2) (D.ld Tryd.underlying3) ?_
   refine Dt.T rfl (wantY hb2) (D.ld Tryd.underlying22) ?_
   refine Dt.Y rfl (wantY hb2) Y.mv ?_
   refine Dt.Y rfl (wantY hb2) (Y.ixr Tryd.underlying22 Y3) ?_
   refine Dt.T rfl (wantY hb2) (D.ld Tryd.underlying3) ?_
   refine Dt.Y rfl (wantY hb2) Y.bin ?_
   refine Dt.Y rfl (wantY hb2) Y.bin ?_
   refine Dt.Y rfl wantN (Y.pk (c := true) hb2) ?_
   refine Dt.Y rfl wantN Y.asg ?_
   refine Dt.nil ?_
   obtain rfl := Option.some.inj h
   refine AWp.ret ?_
   exact ⟨.inr rfl, [(5, _)], _, ⟨rfl, rfl⟩, IsPart.at [] [] base0 .nil (E.c .nil)⟩
  ·
   have hb2 := hb
   try simp only [hS, hE, ne_eq] at hb
   first | rw [if_pos hb2] at h | rw [if_neg (Bool.eq_false_iff.1 hb2)] at h | rw [if_pos hb] at h | rw [if_neg hb] at h | (simp only [hb, hT, reduceIte] at h) | skip
   refine Dt.Nt rfl (wantZ hb2) ?_
   refine Dt.No rfl (wantZ hb2) ?_
   refine Dt.No rfl (wantZ hb2) ?_
   refine Dt.Nt rfl (wantZ hb2) ?_
   refine Dt.Nt rfl (wantZ hb2) ?_
   refine Dt.No rfl (wantZ hb2) ?_
   refine Dt.No rfl (wantZ hb2) ?_
   refine Dt.Nt rfl (wantZ hb2) ?_
   refine Dt.No rfl (wantZ hb2) ?_
   refine Dt.No rfl (wantZ hb2) ?_
   refine Dt.Y rfl wantN (Y.pk (c := false) hb2) ?_
   refine Dt.Y rfl wantN Y.asg ?_
   refine Dt.nil ?_
   obtain rfl := Option.some.inj h
   refine AWp.ret ?_
   exact ⟨.inr rfl, [(5, _)], _, ⟨rfl, rfl⟩, IsPart.at [] [] base0 .nil (E.c .nil)⟩
 ·
  have hb1 := hb
  try simp only [hS, hE, ne_eq] at hb
  first | rw [if_pos hb1] at h | rw [if_neg (Bool.eq_false_iff.1 hb1)] at h | rw [if_pos hb] at h | rw [if_neg hb] at h | (simp only [hb, hT, reduceIte] at h) | skip
  refine Dt.Nt rfl (wantZ hb1) ?_
  refine Dt.No rfl (wantZ hb1) ?_
  refine Dt.No rfl (wantZ hb1) ?_
  refine Dt.Nt rfl (wantZ hb1) ?_
  refine Dt.No rfl (wantZ hb1) ?_
  refine Dt.No rfl (wantZ hb1) ?_
  refine Dt.No rfl (wantZ hb1) ?_
  refine Dt.Y rfl wantN (Y.pk (c := false) hb1) ?_
  refine Dt.Y rfl wantN Y.mv ?_
  refine Dt.F 19 (fun hb => ?_) (fun hb => ?_)
  ·
   exact DD hb
  have hb3 := hb
  refine Dt.Nt rfl (wantZ hb3) ?_
  refine Dt.No rfl (wantZ hb3) ?_
  refine Dt.No rfl (wantZ hb3) ?_
  refine Dt.Nt rfl (wantZ hb3) ?_
  refine Dt.Nt rfl (wantZ hb3) ?_
  refine Dt.No rfl (wantZ hb3) ?_
  refine Dt.No rfl (wantZ hb3) ?_
  refine Dt.Nt rfl (wantZ hb3) ?_
  refine Dt.No rfl (wantZ hb3) ?_
  refine Dt.No rfl (wantZ hb3) ?_
  refine Dt.Y rfl wantN (Y.pk (c := false) hb3) ?_
  refine Dt.Y rfl wantN Y.asg ?_
  refine Dt.nil ?_
  obtain rfl := Option.some.inj h
  refine AWp.ret ?_
  exact ⟨.inr rfl, [(5, _)], _, ⟨rfl, rfl⟩, IsPart.at [] [] base0 .nil (E.c .nil)⟩

/-! ### impl_OutcastFails: function 54 -/
def impl_OutcastFails.f (k : Nat) (a0 : Int) (l1 : List Int) : Option (Int × Int × Bool) := (impl_fails.f k a0 l1 (fun z0_ z1_ => impl_OutcastFails_1.f z0_ z1_ l1)).bind fun bt436 => (some (bt436.1, bt436.2.1, bt436.2.2))
set_option maxRecDepth 100000 in
set_option maxHeartbeats 20000000 in
theorem impl_OutcastFails.ac (k : Nat) (a0 : Int) (l1 : List Int) (r1 : Int) (r2 : Int) (r3 : Bool) (h : impl_OutcastFails.f k a0 l1 = some (r1, r2, r3)) :
  ACalls Tryd.prog 54 [.lit (.int .i64 a0), .row 1 l1.length false (ints .i64 l1)] [] (fun v H' => v = .tup [.lit (.int .i64 r1), .lit (.int .i64 r2), .lit (.bool r3)] ∧ H' = []) := by
 refine ACalls.ofP [4, 5, 6] Tryd.func54 rfl (by exact Nat.le_of_ble_eq_true rfl) rfl (by decide) ?_
 simp only [Tryd.ntmps54, env0, impl_OutcastFails.f] at h ⊢
 refine AWp.seq ?_
 refine AWp.region ?_
 refine L.M M.bx ?_
 refine L.Y Y.asg ?_
 refine L.Y Y.asg ?_
 refine L.Y Y.asg ?_
 refine AList.nil ?_
 refine AWp.seq ?_
 refine AWp.region ?_
 refine L.Y Y.mv ?_
 refine L.S (S.ld Tryd.underlying22) ?_
 refine L.Y Y.fn ?_
 obtain ⟨⟨t436, t437, t438⟩, hc1, h⟩ := Option.bind_eq_some_iff.1 h
 dsimp only at h
 refine L.C (C.callE (l := true) [] Tryd.func112 (impl_fails.ac _ _ _ _ _ _ _ hc1 116 _ (FnOk.at_ Tryd.func116) (by simp [noids, noid, noids_ints]) (fun x_ y_ r_ h_ => impl_OutcastFails_1.ac x_ y_ _ r_ h_)) .nil ?_)
 refine L.Y Y.ex ?_
 refine L.Y Y.ex ?_
 refine L.Y Y.ex ?_
 refine L.Y Y.asg ?_
 refine L.Y Y.asg ?_
 refine L.Y Y.asg ?_
 refine AList.nil ?_
 simp only [Option.some.injEq, Prod.mk.injEq] at h
 obtain ⟨rfl, rfl, rfl⟩ := h
 refine AWp.ret ?_
 exact ⟨.inr rfl, [(4, _), (5, _), (6, _)], _, ⟨rfl, rfl⟩, IsPart.at [] [] base0 .nil (E.c (E.c (E.c .nil)))⟩

/-! ### spec_OutcastFails: function 55 -/
def spec_OutcastFails.f (k : Nat) (a0 : Int) (l1 : List Int) : Option (Int × Int × Bool) := (spec_cfPair.f k a0 l1 2).bind fun bt439 => (some (bt439.1, bt439.2.1, bt439.2.2))
set_option maxRecDepth 100000 in
set_option maxHeartbeats 20000000 in
theorem spec_OutcastFails.ac (k : Nat) (a0 : Int) (l1 : List Int) (r1 : Int) (r2 : Int) (r3 : Bool) (h : spec_OutcastFails.f k a0 l1 = some (r1, r2, r3)) :
  ACalls Tryd.prog 55 [.lit (.int .i64 a0), .row 1 l1.length false (ints .i64 l1)] [] (fun v H' => v = .tup [.lit (.int .i64 r1), .lit (.int .i64 r2), .lit (.bool r3)] ∧ H' = []) := by
 refine ACalls.ofP [4, 5, 6] Tryd.func55 rfl (by exact Nat.le_of_ble_eq_true rfl) rfl (by decide) ?_
 simp only [Tryd.ntmps55, env0, spec_OutcastFails.f] at h ⊢
 refine AWp.seq ?_
 refine AWp.region ?_
 refine L.Y Y.asg ?_
 refine L.Y Y.asg ?_
 refine L.Y Y.asg ?_
 refine AList.nil ?_
 refine AWp.seq ?_
 refine AWp.region ?_
 refine L.Y Y.mv ?_
 refine L.Y Y.mv ?_
 obtain ⟨⟨t439, t440, t441⟩, hc1, h⟩ := Option.bind_eq_some_iff.1 h
 dsimp only at h
 refine L.C (C.callE (l := true) [] Tryd.func114 (spec_cfPair.ac _ _ _ _ _ _ _ hc1) .nil ?_)
 refine L.Y Y.ex ?_
 refine L.Y Y.ex ?_
 refine L.Y Y.ex ?_
 refine L.Y Y.asg ?_
 refine L.Y Y.asg ?_
 refine L.Y Y.asg ?_
 refine AList.nil ?_
 simp only [Option.some.injEq, Prod.mk.injEq] at h
 obtain ⟨rfl, rfl, rfl⟩ := h
 refine AWp.ret ?_
 exact ⟨.inr rfl, [(4, _), (5, _), (6, _)], _, ⟨rfl, rfl⟩, IsPart.at [] [] base0 .nil (E.c (E.c (E.c .nil)))⟩

/-! ### impl_PathFails_1: function 117 -/
def impl_PathFails_1.f (a0 : Int) (a1 : Int) (l2_0 : List Int) : Option (Bool) := if 0 ≤ (Go.bits .or .i64 a0 a1) then (if (Go.bits .or .i64 a0 a1) < (l2_0.length : Int) then (if 0 ≤ a0 then (if a0 < (l2_0.length : Int) then (if 0 ≤ a1 then (if a1 < (l2_0.length : Int) then (if 0 ≤ (Go.bits .or .i64 (rd l2_0 a0) (rd l2_0 a1)) then (if (Go.bits .or .i64 (rd l2_0 a0) (rd l2_0 a1)) < (l2_0.length : Int) then (some ((rd l2_0 (Go.bits .or .i64 a0 a1)) != (rd l2_0 (Go.bits .or .i64 (rd l2_0 a0) (rd l2_0 a1))))) else (none)) else (none)) else (none)) else (none)) else (none)) else (none)) else (none)) else (none)
set_option maxRecDepth 100000 in
set_option maxHeartbeats 20000000 in
theorem impl_PathFails_1.ac (a0 : Int) (a1 : Int) (l2_0 : List Int) (r : Bool) (h : impl_PathFails_1.f a0 a1 l2_0 = some r) :
  ACalls Tryd.prog 117 [.lit (.int .i64 a0), .lit (.int .i64 a1), .rptr [.row 1 l2_0.length false (ints .i64 l2_0)]] [] (fun v H' => v = .lit (.bool r) ∧ H' = []) := by
 refine ACalls.ofP [5] Tryd.func117 rfl (by exact Nat.le_of_ble_eq_true rfl) rfl (by decide) ?_
 simp only [Tryd.ntmps117, env0, impl_PathFails_1.f] at h ⊢
 repeat (first | (rw [iN] at h; obtain ⟨_, h⟩ := h) | (rw [iP] at h; obtain ⟨_, h⟩ := h) | (simp only [bS] at h))
 refine AWp.seq ?_
 refine AWp.region ?_
 refine L.Y Y.asg ?_
 refine AList.nil ?_
 refine AWp.seq ?_
 refine Dt.reg [] [] (.t 0 (.y 1 (.y 2 (.y 3 (.y 4 (.t 5 (.t 6 (.t 7 (.y 8 (.y 9 (.t 10 (.t 11 (.y 12 (.y 13 (.t 14 (.y 15 (.y 16 (.t 17 (.y 18 (.y 19 .done)))))))))))))))))))) HM ?_
 refine Dt.T rfl wantN (D.ld Tryd.underlying22) ?_
 refine Dt.Y rfl wantN Y.mv ?_
 refine Dt.Y rfl wantN Y.mv ?_
 refine Dt.Y rfl wantN Y.bin ?_
 refine Dt.Y rfl wantN (Y.ixr Tryd.underlying22 Y3) ?_
 refine Dt.T rfl wantN (D.ld Tryd.underlying3) ?_
 refine Dt.T rfl wantN (D.ld Tryd.underlying22) ?_
 refine Dt.T rfl wantN (D.ld Tryd.underlying22) ?_
 refine Dt.Y rfl wantN Y.mv ?_
 refine Dt.Y rfl wantN (Y.ixr Tryd.underlying22 Y3) ?_
 refine Dt.T rfl wantN (D.ld Tryd.underlying3) ?_
 refine Dt.T rfl wantN (D.ld Tryd.underlying22) ?_
 refine Dt.Y rfl wantN Y.mv ?_
 refine Dt.Y rfl wantN (Y.ixr Tryd.underlying22 Y3) ?_
 refine Dt.T rfl wantN (D.ld Tryd.underlying3) ?_
 refine Dt.Y rfl wantN Y.bin ?_
 refine Dt.Y rfl wantN (Y.ixr Tryd.underlying22 Y3) ?_
 refine Dt.T rfl wantN (D.ld Tryd.underlying3) ?_
 refine Dt.Y rfl wantN Y.bin ?_
 refine Dt.Y rfl wantN Y.asg ?_
 refine Dt.nil ?_
 obtain rfl := Option.some.inj h
 refine AWp.ret ?_
 exact ⟨.inr rfl, [(5, _)], _, ⟨rfl, rfl⟩, IsPart.at [] [] base0 .nil (E.c .nil)⟩

/-! ### impl_PathFails: function 56 -/
def impl_PathFails.f (k : Nat) (a0 : Int) (l1 : List Int) : Option (Int × Int × Bool) := (impl_fails.f k a0 l1 (fun z0_ z1_ => impl_PathFails_1.f z0_ z1_ l1)).bind fun bt447 => (some (bt447.1, bt447.2.1, bt447.2.2))
set_option maxRecDepth 100000 in
set_option maxHeartbeats 20000000 in
theorem impl_PathFails.ac (k : Nat) (a0 : Int) (l1 : List Int) (r1 : Int) (r2 : Int) (r3 : Bool) (h : impl_PathFails.f k a0 l1 = some (r1, r2, r3)) :
  ACalls Tryd.prog 56 [.lit (.int .i64 a0), .row 1 l1.length false (ints .i64 l1)] [] (fun v H' => v = .tup [.lit (.int .i64 r1), .lit (.int .i64 r2), .lit (.bool r3)] ∧ H' = []) := by
 refine ACalls.ofP [4, 5, 6] Tryd.func56 rfl (by exact Nat.le_of_ble_eq_true rfl) rfl (by decide) ?_
 simp only [Tryd.ntmps56, env0, impl_PathFails.f] at h ⊢
 refine AWp.seq ?_
 refine AWp.region ?_
 refine L.M M.bx ?_
 refine L.Y Y.asg ?_
 refine L.Y Y.asg ?_
 refine L.Y Y.asg ?_
 refine AList.nil ?_
 refine AWp.seq ?_
 refine AWp.region ?_
 refine L.Y Y.mv ?_
 refine L.S (S.ld Tryd.underlying22) ?_
 refine L.Y Y.fn ?_
 obtain ⟨⟨t447, t448, t449⟩, hc1, h⟩ := Option.bind_eq_some_iff.1 h
 dsimp only at h
 refine L.C (C.callE (l := true) [] Tryd.func112 (impl_fails.ac _ _ _ _ _ _ _ hc1 117 _ (FnOk.at_ Tryd.func117) (by simp [noids, noid, noids_ints]) (fun x_ y_ r_ h_ => impl_PathFails_1.ac x_ y_ _ r_ h_)) .nil ?_)
 refine L.Y Y.ex ?_
 refine L.Y Y.ex ?_
 refine L.Y Y.ex ?_
 refine L.Y Y.asg ?_
 refine L.Y Y.asg ?_
 refine L.Y Y.asg ?_
 refine AList.nil ?_
 simp only [Option.some.injEq, Prod.mk.injEq] at h
 obtain ⟨rfl, rfl, rfl⟩ := h
 refine AWp.ret ?_
 exact ⟨.inr rfl, [(4, _), (5, _), (6, _)], _, ⟨rfl, rfl⟩, IsPart.at [] [] base0 .nil (E.c (E.c (E.c .nil)))⟩

/-! ### spec_PathFails: function 57 -/
def spec_PathFails.f (k : Nat) (a0 : Int) (l1 : List Int) : Option (Int × Int × Bool) := (spec_cfPair.f k a0 l1 3).bind fun bt450 => (some (bt450.1, bt450.2.1, bt450.2.2))
set_option maxRecDepth 100000 in
set_option maxHeartbeats 20000000 in
theorem spec_PathFails.ac (k : Nat) (a0 : Int) (l1 : List Int) (r1 : Int) (r2 : Int) (r3 : Bool) (h : spec_PathFails.f k a0 l1 = some (r1, r2, r3)) :
  ACalls Tryd.prog 57 [.lit (.int .i64 a0), .row 1 l1.length false (ints .i64 l1)] [] (fun v H' => v = .tup [.lit (.int .i64 r1), .lit (.int .i64 r2), .lit (.bool r3)] ∧ H' = []) := by
 refine ACalls.ofP [4, 5, 6] Tryd.func57 rfl (by exact Nat.le_of_ble_eq_true rfl) rfl (by decide) ?_
 simp only [Tryd.ntmps57, env0, spec_PathFails.f] at h ⊢
 refine AWp.seq ?_
 refine AWp.region ?_
 refine L.Y Y.asg ?_
 refine L.Y Y.asg ?_
 refine L.Y Y.asg ?_
 refine AList.nil ?_
 refine AWp.seq ?_
 refine AWp.region ?_
 refine L.Y Y.mv ?_
 refine L.Y Y.mv ?_
 obtain ⟨⟨t450, t451, t452⟩, hc1, h⟩ := Option.bind_eq_some_iff.1 h
 dsimp only at h
 refine L.C (C.callE (l := true) [] Tryd.func114 (spec_cfPair.ac _ _ _ _ _ _ _ hc1) .nil ?_)
 refine L.Y Y.ex ?_
 refine L.Y Y.ex ?_
 refine L.Y Y.ex ?_
 refine L.Y Y.asg ?_
 refine L.Y Y.asg ?_
 refine L.Y Y.asg ?_
 refine AList.nil ?_
 simp only [Option.some.injEq, Prod.mk.injEq] at h
 obtain ⟨rfl, rfl, rfl⟩ := h
 refine AWp.ret ?_
 exact ⟨.inr rfl, [(4, _), (5, _), (6, _)], _, ⟨rfl, rfl⟩, IsPart.at [] [] base0 .nil (E.c (E.c (E.c .nil)))⟩

/-! ### impl_IsChoiceTable: function 58 -/
def impl_IsChoiceTable.f (k : Nat) (a0 : Int) (l1 : List Int) : Option (Bool × Bool) := (impl_within.f a0 0 4).bind fun t453 => (if t453 = true then ((impl_isChoice.f k a0 l1).bind fun t454 => (some (t454, true))) else (some (false, false)))
set_option maxRecDepth 100000 in
set_option maxHeartbeats 20000000 in
theorem impl_IsChoiceTable.ac (k : Nat) (a0 : Int) (l1 : List Int) (r1 : Bool) (r2 : Bool) (h : impl_IsChoiceTable.f k a0 l1 = some (r1, r2)) :
  ACalls Tryd.prog 58 [.lit (.int .i64 a0), .row 1 l1.length false (ints .i64 l1)] [] (fun v H' => v = .tup [.lit (.bool r1), .lit (.bool r2)] ∧ H' = []) := by
 refine ACalls.ofP [4, 5] Tryd.func58 rfl (by exact Nat.le_of_ble_eq_true rfl) rfl (by decide) ?_
 simp only [Tryd.ntmps58, env0, impl_IsChoiceTable.f] at h ⊢
 refine AWp.seq ?_
 refine AWp.region ?_
 refine L.Y Y.asg ?_
 refine L.Y Y.asg ?_
 refine AList.nil ?_
 refine AWp.seq ?_
 refine AWp.seq ?_
 refine AWp.region ?_
 refine L.Y Y.mv ?_
 obtain ⟨t453, hc1, h⟩ := Option.bind_eq_some_iff.1 h
 refine L.C (C.callE (l := true) [] Tryd.func68 (impl_within.ac _ _ _ _ hc1) .nil ?_)
 refine L.Y Y.nt ?_
 refine AList.nil ?_
 refine W.cond (fun hb => ?_) (fun hb => ?_)
 ·
  have hb2 := hb
  try simp only [hS, hE, ne_eq] at hb
  first | rw [if_pos hb2] at h | rw [if_neg (Bool.eq_false_iff.1 hb2)] at h | rw [if_pos hb] at h | rw [if_neg hb] at h | (simp only [hb, hT, reduceIte] at h) | skip
  refine AWp.seq ?_
  refine AWp.region ?_
  refine L.Y Y.asg ?_
  refine L.Y Y.asg ?_
  refine AList.nil ?_
  simp only [Option.some.injEq, Prod.mk.injEq] at h
  obtain ⟨rfl, rfl⟩ := h
  refine AWp.ret ?_
  exact ⟨.inr rfl, [(4, _), (5, _)], _, ⟨rfl, rfl⟩, IsPart.at [] [] base0 .nil (E.c (E.c .nil))⟩
 ·
  have hb2 := hb
  try simp only [hS, hE, ne_eq] at hb
  first | rw [if_pos hb2] at h | rw [if_neg (Bool.eq_false_iff.1 hb2)] at h | rw [if_pos hb] at h | rw [if_neg hb] at h | (simp only [hb, hT, reduceIte] at h) | skip
  refine AWp.skip ?_
  refine AWp.seq ?_
  refine AWp.region ?_
  refine L.Y Y.mv ?_
  refine L.Y Y.mv ?_
  obtain ⟨t454, hc3, h⟩ := Option.bind_eq_some_iff.1 h
  refine L.C (C.callE (l := true) [] Tryd.func106 (impl_isChoice.ac _ _ _ _ hc3) .nil ?_)
  refine L.Y Y.asg ?_
  refine L.Y Y.asg ?_
  refine AList.nil ?_
  simp only [Option.some.injEq, Prod.mk.injEq] at h
  obtain ⟨rfl, rfl⟩ := h
  refine AWp.ret ?_
  exact ⟨.inr rfl, [(4, _), (5, _)], _, ⟨rfl, rfl⟩, IsPart.at [] [] base0 .nil (E.c (E.c .nil))⟩

/-! ### spec_IsChoiceTable: function 59 -/
def spec_IsChoiceTable.f (k : Nat) (a0 : Int) (l1 : List Int) : Option (Bool × Bool) := (spec_cfSize.f a0).bind fun t455 => (if t455 = true then ((spec_cfGood.f k a0 l1).bind fun t456 => (some (t456, true))) else (some (false, false)))
set_option maxRecDepth 100000 in
set_option maxHeartbeats 20000000 in
theorem spec_IsChoiceTable.ac (k : Nat) (a0 : Int) (l1 : List Int) (r1 : Bool) (r2 : Bool) (h : spec_IsChoiceTable.f k a0 l1 = some (r1, r2)) :
  ACalls Tryd.prog 59 [.lit (.int .i64 a0), .row 1 l1.length false (ints .i64 l1)] [] (fun v H' => v = .tup [.lit (.bool r1), .lit (.bool r2)] ∧ H' = []) := by
 refine ACalls.ofP [4, 5] Tryd.func59 rfl (by exact Nat.le_of_ble_eq_true rfl) rfl (by decide) ?_
 simp only [Tryd.ntmps59, env0, spec_IsChoiceTable.f] at h ⊢
 refine AWp.seq ?_
 refine AWp.region ?_
 refine L.Y Y.asg ?_
 refine L.Y Y.asg ?_
 refine AList.nil ?_
 refine AWp.seq ?_
 refine AWp.seq ?_
 refine AWp.region ?_
 refine L.Y Y.mv ?_
 obtain ⟨t455, hc1, h⟩ := Option.bind_eq_some_iff.1 h
 refine L.C (C.callE (l := true) [] Tryd.func90 (spec_cfSize.ac _ _ hc1) .nil ?_)
 refine L.Y Y.nt ?_
 refine AList.nil ?_
 refine W.cond (fun hb => ?_) (fun hb => ?_)
 ·
  have hb2 := hb
  try simp only [hS, hE, ne_eq] at hb
  first | rw [if_pos hb2] at h | rw [if_neg (Bool.eq_false_iff.1 hb2)] at h | rw [if_pos hb] at h | rw [if_neg hb] at h | (simp only [hb, hT, reduceIte] at h) | skip
  refine AWp.seq ?_
  refine AWp.region ?_
  refine L.Y Y.asg ?_
  refine L.Y Y.asg ?_
  refine AList.nil ?_
  simp only [Option.some.injEq, Prod.mk.injEq] at h
  obtain ⟨rfl, rfl⟩ := h
  refine AWp.ret ?_
  exact ⟨.inr rfl, [(4, _), (5, _)], _, ⟨rfl, rfl⟩, IsPart.at [] [] base0 .nil (E.c (E.c .nil))⟩
 ·
  have hb2 := hb
  try simp only [hS, hE, ne_eq] at hb
  first | rw [if_pos hb2] at h | rw [if_neg (Bool.eq_false_iff.1 hb2)] at h | rw [if_pos hb] at h | rw [if_neg hb] at h | (simp only [hb, hT, reduceIte] at h) | skip
  refine AWp.skip ?_
  refine AWp.seq ?_
  refine AWp.region ?_
  refine L.Y Y.mv ?_
  refine L.Y Y.mv ?_
  obtain ⟨t456, hc3, h⟩ := Option.bind_eq_some_iff.1 h
  refine L.C (C.callE (l := true) [] Tryd.func110 (spec_cfGood.ac _ _ _ _ hc3) .nil ?_)
  refine L.Y Y.asg ?_
  refine L.Y Y.asg ?_
  refine AList.nil ?_
  simp only [Option.some.injEq, Prod.mk.injEq] at h
  obtain ⟨rfl, rfl⟩ := h
  refine AWp.ret ?_
  exact ⟨.inr rfl, [(4, _), (5, _)], _, ⟨rfl, rfl⟩, IsPart.at [] [] base0 .nil (E.c (E.c .nil))⟩

/-! ### impl_RevealedOf: function 60 -/
def impl_RevealedOf.f (k : Nat) (a0 : Int) (l1 : List Int) : Option (Int × List Int × Bool) := (impl_isChoice.f k a0 l1).bind fun t458 => (if t458 = true then ((impl_revealed.f k a0 l1).bind fun bt459 => (some (bt459.1, bt459.2, true))) else (some (0, ([] : List Int), false)))
set_option maxRecDepth 100000 in
set_option maxHeartbeats 20000000 in
theorem impl_RevealedOf.ac (k : Nat) (a0 : Int) (l1 : List Int) (r1 : Int) (r2 : List Int) (r3 : Bool) (h : impl_RevealedOf.f k a0 l1 = some (r1, r2, r3)) :
  ACalls Tryd.prog 60 [.lit (.int .i64 a0), .row 1 l1.length false (ints .i64 l1)] [] (fun v H' => v = .tup [.agg [.lit (.int .i64 r1), .own 0 r2.length], .lit (.bool r3)] ∧ H' = [.sl 3 1 r2.length false (ints .i64 r2)]) := by
 refine ACalls.ofV Tryd.func60 rfl (by exact Nat.le_of_ble_eq_true rfl) ?_
 simp only [Tryd.ntmps60, env0, impl_RevealedOf.f] at h ⊢
 refine AWp.seq ?_
 refine AWp.region ?_
 refine L.M (M.al Y30) ?_
 refine L.Y Y.asg ?_
 refine AList.nil ?_
 refine AWp.seq ?_
 refine AWp.seq ?_
 refine AWp.region ?_
 refine L.Y Y.mv ?_
 refine L.Y Y.mv ?_
 obtain ⟨t458, hc1, h⟩ := Option.bind_eq_some_iff.1 h
 refine L.C (C.callE (l := true) [] Tryd.func106 (impl_isChoice.ac _ _ _ _ hc1) .nil ?_)
 refine L.Y Y.nt ?_
 refine AList.nil ?_
 refine W.cond (fun hb => ?_) (fun hb => ?_)
 ·
  have hb2 := hb
  try simp only [hS, hE, ne_eq] at hb
  first | rw [if_pos hb2] at h | rw [if_neg (Bool.eq_false_iff.1 hb2)] at h | rw [if_pos hb] at h | rw [if_neg hb] at h | (simp only [hb, hT, reduceIte] at h) | skip
  refine AWp.seq ?_
  refine AWp.region ?_
  refine L.Y (Y.bd Tryd.underlying30 Y30 P30) ?_
  refine L.S (S.stb Y30) ?_
  refine L.Y Y.asg ?_
  refine AList.nil ?_
  simp only [Option.some.injEq, Prod.mk.injEq] at h
  obtain ⟨rfl, rfl, rfl⟩ := h
  refine AWp.ret ?_
  exact ⟨.inr rfl, _, _, _, Res.c2 Tryd.underlying30 Y30, ⟨rfl, rfl⟩, PartV.at [(3, 1)] [1] base0 (H.c .nil)⟩
 ·
  have hb2 := hb
  try simp only [hS, hE, ne_eq] at hb
  first | rw [if_pos hb2] at h | rw [if_neg (Bool.eq_false_iff.1 hb2)] at h | rw [if_pos hb] at h | rw [if_neg hb] at h | (simp only [hb, hT, reduceIte] at h) | skip
  refine AWp.skip ?_
  refine AWp.seq ?_
  refine AWp.region ?_
  refine L.Y Y.mv ?_
  refine L.Y Y.mv ?_
  obtain ⟨⟨t459, t460⟩, hc3, h⟩ := Option.bind_eq_some_iff.1 h
  dsimp only at h
  refine L.C (C.callE (l := true) [] Tryd.func107 (impl_revealed.ac _ _ _ _ _ hc3) .nil ?_)
  refine L.S (S.stb Y30) ?_
  refine L.Y Y.asg ?_
  refine AList.nil ?_
  simp only [Option.some.injEq, Prod.mk.injEq] at h
  obtain ⟨rfl, rfl, rfl⟩ := h
  refine AWp.ret ?_
  exact ⟨.inr rfl, _, _, _, Res.c2 Tryd.underlying30 Y30, ⟨rfl, rfl⟩, PartV.at [] [1] base0 (H.c .nil)⟩

end Go.Proofs.YtpippjgphndjmaaDoor.PFnRationalTables
