-- Written by a program of this session's (wip/myprint2): the functions by the kit's print, the walks by awgen.py. Lean checks it.
import Derived.Test.YtpippjgphndjmaaPFnMeetsOfBiordersx0
import Derived.Test.YtpippjgphndjmaaPFnMeetsOfBiordersx3
import Derived.Test.YtpippjgphndjmaaPFnMeetsOfBiordersx4
import Derived.Test.YtpippjgphndjmaaPFnMeetsOfBiordersx5
namespace Go.Proofs.Ytpippjgphndjmaa.PFnMeetsOfBiorders
open Go.RowKit Go.Proofs.YtpippjgphndjmaaW.PrintWords Go.Proofs.YtpippjgphndjmaaW.PrintLast Go.Proofs.YtpippjgphndjmaaW.PrintMore Go.Proofs.YtpippjgphndjmaaM Go.Proofs.YtpippjgphndjmaaA
attribute [local go_sem] max2_int min2_int max_two min_two max_three min_three max_four min_four   -- for this text's walks alone
set_option linter.unusedVariables false
set_option linter.unusedSimpArgs false

/-! ### impl_Table_areCells: function 53 -/
def impl_Table_areCells.l0 : Nat → List Int → List Int → Int → Int → Int → Int → List Int → Option (Bool)
 | 0, _, _, _, _, _, _, _ => none
 | k + 1, x1, x7, x8, x9, x229000, x229001, x229002 => if x9 < x8 then (if 0 ≤ x9 then (if x9 < (x7.length : Int) then ((impl_within.f (rd x7 x9) 0 (wrap64 ((wrap64 (x229000 * x229001)) - 1))).bind fun t231 => (if t231 = true then (if x229001 = 0 then (none) else ((impl_Table_marked.f x229000 x229001 x229002 (wrap64 (Int.tdiv (rd x7 x9) x229001)) (Int.tmod (rd x7 x9) x229001)).bind fun t232 => (if t232 = true then (some false) else (impl_Table_areCells.l0 k x1 x7 x8 (wrap64 (x9 + 1)) x229000 x229001 x229002)))) else (some false))) else (none)) else (none)) else ((impl_isIncreasing.f k x1).bind fun t229 => (some t229))
def impl_Table_areCells.f (k : Nat) (a0_0 : Int) (a0_1 : Int) (l0_2 : List Int) (l1 : List Int) : Option (Bool) := impl_Table_areCells.l0 k l1 l1 (l1.length : Int) 0 a0_0 a0_1 l0_2
set_option maxRecDepth 100000 in
set_option maxHeartbeats 20000000 in
theorem impl_Table_areCells.ac (k : Nat) (a0_0 : Int) (a0_1 : Int) (l0_2 : List Int) (l1 : List Int) (r : Bool) (h : impl_Table_areCells.f k a0_0 a0_1 l0_2 l1 = some r) :
  ACalls Try.prog 53 [.agg [.lit (.int .i64 a0_0), .lit (.int .i64 a0_1), .row 1 l0_2.length false (ints .i64 l0_2)], .row 1 l1.length false (ints .i64 l1)] [] (fun v H' => v = .lit (.bool r) ∧ H' = []) := by
 refine ACalls.ofP [4] Try.func53 rfl (by exact Nat.le_of_ble_eq_true rfl) rfl (by decide) ?_
 simp only [Try.ntmps53, env0, impl_Table_areCells.f] at h ⊢
 refine AWp.seq ?_
 refine AWp.region ?_
 refine L.M M.bx ?_
 refine L.Y Y.asg ?_
 refine AList.nil ?_
 refine AWp.seq ?_
 refine AWp.seq ?_
 refine AWp.region ?_
 refine L.Y Y.mv ?_
 refine L.Y (Y.ln Try.underlying22) ?_
 refine L.Y Y.mv ?_
 refine AList.nil ?_
 refine AWp.block ?_
 refine AWp.loopI (fun kk e H => kk ≤ k ∧ ∃ (x8 : Int) (x9 : Int) (x229000 : Int) (x229001 : Int), e = [(1, .row 1 l1.length false (ints .i64 l1)), (2, .ptr 0 0), (7, .row 1 l1.length false (ints .i64 l1)), (8, .lit (.int .i64 x8)), (9, .lit (.int .i64 x9))] ∧ H = [.bx 28 [.lit (.int .i64 x229000), .lit (.int .i64 x229001), .row 1 l0_2.length false (ints .i64 l0_2)]] ∧ impl_Table_areCells.l0 kk l1 l1 x8 x9 x229000 x229001 l0_2 = some r) (k := k)
  ⟨_, _, ⟨Nat.le_refl _, _, _, _, _, rfl, rfl, h⟩, IsPart.at [] [0] base0 (H.c .nil) (E.c (E.c (E.c (E.c (E.c .nil)))))⟩ ?_
 clear h
 rintro k1 e H ⟨hk2, x8, x9, x229000, x229001, rfl, rfl, h⟩
 cases k1 with
 | zero => exact absurd h (by simp [impl_Table_areCells.l0])
 | succ k1 =>
 simp only [impl_Table_areCells.l0] at h
 refine AWp.seq ?_
 refine AWp.region ?_
 refine L.Y Y.bin ?_
 refine AList.nil ?_
 refine AWp.seq ?_
 refine W.cond (fun hb => ?_) (fun hb => ?_)
 ·
  have hb3 := hb
  try simp only [hS, hE, ne_eq] at hb
  first | rw [if_pos hb3] at h | rw [if_neg (Bool.eq_false_iff.1 hb3)] at h | rw [if_pos hb] at h | rw [if_neg hb] at h | (simp only [hb, hT, reduceIte] at h) | skip
  repeat (first | (rw [iN] at h; obtain ⟨_, h⟩ := h) | (rw [iP] at h; obtain ⟨_, h⟩ := h) | (simp only [bS] at h))
  refine AWp.skip ?_
  refine AWp.seq ?_
  refine AWp.block ?_
  refine AWp.seq ?_
  refine AWp.region ?_
  refine L.Y (Y.ixr Try.underlying22 Y3) ?_
  refine L.S (S.ld Try.underlying3) ?_
  refine L.Y Y.asg ?_
  refine AList.nil ?_
  refine AWp.seq ?_
  refine Dt.reg [] [] (.y 0 (.y 1 (.t 2 (.y 3 (.t 4 (.y 5 (.y 6 (.one 7 (.y 8 (.y 9 (.t 10 (.y 11 (.y 12 (.t 13 (.y 14 (.y 15 (.y 16 (.t 17 (.y 18 (.one 19 (.y 20 .done))))))))))))))))))))) HM ?_
  refine Dt.Y rfl wantN Y.mv ?_
  refine Dt.Y rfl wantN (Y.fa (off := 0) Try.underlying28 Y3) ?_
  refine Dt.T rfl wantN (D.ld Try.underlying3) ?_
  refine Dt.Y rfl wantN (Y.fa (off := 1) Try.underlying28 Y3) ?_
  refine Dt.T rfl wantN (D.ld Try.underlying3) ?_
  refine Dt.Y rfl wantN Y.bin ?_
  refine Dt.Y rfl wantN Y.bin ?_
  refine Dt.O (g' := false) rfl wantN ?_
  obtain ⟨t231, hc4, h⟩ := Option.bind_eq_some_iff.1 h
  refine Ox.C true [] Try.func47 (impl_within.ac _ _ _ _ hc4) .nil ?_
  refine Dt.Y rfl wantN Y.nt ?_
  refine Dt.Y rfl wantN Y.mv ?_
  refine Dt.F 22 (fun hb => ?_) (fun hb => ?_)
  ·
   have hb5 := hb
   try simp only [hS, hE, ne_eq] at hb
   first | rw [if_pos hb5] at h | rw [if_neg (Bool.eq_false_iff.1 hb5)] at h | rw [if_pos hb] at h | rw [if_neg hb] at h | (simp only [hb, hT, reduceIte] at h) | skip
   refine Dt.Nt rfl (wantZ hb5) ?_
   refine Dt.No rfl (wantZ hb5) ?_
   refine Dt.No rfl (wantZ hb5) ?_
   refine Dt.Nt rfl (wantZ hb5) ?_
   refine Dt.No rfl (wantZ hb5) ?_
   refine Dt.No rfl (wantZ hb5) ?_
   refine Dt.No rfl (wantZ hb5) ?_
   refine Dt.Nt rfl (wantZ hb5) ?_
   refine Dt.No rfl (wantZ hb5) ?_
   refine Dt.Po rfl (wantZ hb5) ?_
   refine Dt.Y rfl wantN (Y.pk (c := true) hb5) ?_
   refine Dt.nil ?_
   refine W.cond (fun hb => ?_) (fun hb => ?_)
   rotate_left
   ·
    exact DD hb
   have hb6 := hb
   refine AWp.seq ?_
   refine W.kp [1, 2, 6, 7, 8, 9, 10, 33] ?_
   refine AWp.region ?_
   refine L.Y Y.asg ?_
   refine AList.nil ?_
   obtain rfl := Option.some.inj h
   refine AWp.ret ?_
   exact ⟨.inr rfl, [(4, _)], _, ⟨rfl, rfl⟩, IsPart.at [] [] base0 .nil (E.c .nil)⟩
  ·
   have hb5 := hb
   try simp only [hS, hE, ne_eq] at hb
   first | rw [if_pos hb5] at h | rw [if_neg (Bool.eq_false_iff.1 hb5)] at h | rw [if_pos hb] at h | rw [if_neg hb] at h | (simp only [hb, hT, reduceIte] at h) | skip
   repeat (first | (rw [iN] at h; obtain ⟨_, h⟩ := h) | (rw [iP] at h; obtain ⟨_, h⟩ := h) | (simp only [bS] at h))
   refine Dt.T rfl (wantY hb5) (D.ldN Try.underlying28 Y28) ?_
   refine Dt.Y rfl (wantY hb5) Y.mv ?_
   refine Dt.Y rfl (wantY hb5) (Y.fa (off := 1) Try.underlying28 Y3) ?_
   refine Dt.T rfl (wantY hb5) (D.ld Try.underlying3) ?_
   refine Dt.Y rfl (wantY hb5) Y.bin ?_
   refine Dt.Y rfl (wantY hb5) Y.mv ?_
   refine Dt.Y rfl (wantY hb5) (Y.fa (off := 1) Try.underlying28 Y3) ?_
   refine Dt.T rfl (wantY hb5) (D.ld Try.underlying3) ?_
   refine Dt.Y rfl (wantY hb5) Y.bin ?_
   refine Dt.O (g' := false) rfl (wantY hb5) ?_
   obtain ⟨t232, hc7, h⟩ := Option.bind_eq_some_iff.1 h
   refine Ox.C true [] Try.func60 (impl_Table_marked.ac _ _ _ _ _ _ hc7) .nil ?_
   refine Dt.Y rfl wantN (Y.pk (c := false) hb5) ?_
   refine Dt.nil ?_
   refine W.cond (fun hb => ?_) (fun hb => ?_)
   ·
    have hb8 := hb
    try simp only [hS, hE, ne_eq] at hb
    first | rw [if_pos hb8] at h | rw [if_neg (Bool.eq_false_iff.1 hb8)] at h | rw [if_pos hb] at h | rw [if_neg hb] at h | (simp only [hb, hT, reduceIte] at h) | skip
    refine AWp.seq ?_
    refine W.kp [1, 2, 6, 7, 8, 9, 10, 33] ?_
    refine AWp.region ?_
    refine L.Y Y.asg ?_
    refine AList.nil ?_
    obtain rfl := Option.some.inj h
    refine AWp.ret ?_
    exact ⟨.inr rfl, [(4, _)], _, ⟨rfl, rfl⟩, IsPart.at [] [] base0 .nil (E.c .nil)⟩
   ·
    have hb8 := hb
    try simp only [hS, hE, ne_eq] at hb
    first | rw [if_pos hb8] at h | rw [if_neg (Bool.eq_false_iff.1 hb8)] at h | rw [if_pos hb] at h | rw [if_neg hb] at h | (simp only [hb, hT, reduceIte] at h) | skip
    refine AWp.skip ?_
    refine W.kp [1, 2, 6, 7, 8, 9, 10, 33] ?_
    refine AWp.region ?_
    refine L.Y Y.bin ?_
    refine L.Y Y.mv ?_
    refine AList.nil ?_
    exact ⟨k1, by omega, _, _, ⟨by omega, _, _, _, _, rfl, rfl, h⟩, IsPart.at [] [0] base0 (H.c .nil) (E.c (E.c (E.c (E.c (E.c .nil)))))⟩
 ·
  have hb3 := hb
  try simp only [hS, hE, ne_eq] at hb
  first | rw [if_pos hb3] at h | rw [if_neg (Bool.eq_false_iff.1 hb3)] at h | rw [if_pos hb] at h | rw [if_neg hb] at h | (simp only [hb, hT, reduceIte] at h) | skip
  refine AWp.exit ?_
  refine AWp.seq ?_
  refine AWp.region ?_
  refine L.Y Y.mv ?_
  obtain ⟨t229, hc9, h⟩ := Option.bind_eq_some_iff.1 h
  refine L.C (C.callE (l := true) [] Try.func74 (impl_isIncreasing.ac _ _ _ hc9) .nil ?_)
  refine L.Y Y.asg ?_
  refine AList.nil ?_
  obtain rfl := Option.some.inj h
  refine AWp.ret ?_
  exact ⟨.inr rfl, [(4, _)], _, ⟨rfl, rfl⟩, IsPart.at [] [] base0 .nil (E.c .nil)⟩

/-! ### impl_FreeOrder: function 23 -/
def impl_FreeOrder.f (k : Nat) (a0_0 : Int) (a0_1 : Int) (l0_2 : List Int) (l1 : List Int) : Option (List Int × Bool) := (impl_IsTable.f k a0_0 a0_1 l0_2).bind fun t234 => (if t234 = true then ((impl_Table_areCells.f k a0_0 a0_1 l0_2 l1).bind fun t235 => (if t235 = true then ((impl_Table_freeOrder.f k a0_0 a0_1 l0_2 l1).bind fun t236 => (if t236 = [] then (some (t236, false)) else (some (t236, true)))) else (some (([] : List Int), false)))) else (some (([] : List Int), false)))
set_option maxRecDepth 100000 in
set_option maxHeartbeats 20000000 in
theorem impl_FreeOrder.ac (k : Nat) (a0_0 : Int) (a0_1 : Int) (l0_2 : List Int) (l1 : List Int) (r1 : List Int) (r2 : Bool) (h : impl_FreeOrder.f k a0_0 a0_1 l0_2 l1 = some (r1, r2)) :
  ACalls Try.prog 23 [.agg [.lit (.int .i64 a0_0), .lit (.int .i64 a0_1), .row 1 l0_2.length false (ints .i64 l0_2)], .row 1 l1.length false (ints .i64 l1)] [] (fun v H' => v = .tup [.own 0 r1.length, .lit (.bool r2)] ∧ H' = [.sl 3 1 r1.length false (ints .i64 r1)]) := by
 refine ACalls.ofP [4, 5] Try.func23 rfl (by exact Nat.le_of_ble_eq_true rfl) rfl (by decide) ?_
 simp only [Try.ntmps23, env0, impl_FreeOrder.f] at h ⊢
 refine AWp.seq ?_
 refine AWp.region ?_
 refine L.M M.bx ?_
 refine L.Y Y.asg ?_
 refine L.Y Y.asg ?_
 refine AList.nil ?_
 refine AWp.seq ?_
 refine AWp.seq ?_
 refine AWp.region ?_
 refine L.S (S.ldN Try.underlying28 Y28) ?_
 obtain ⟨t234, hc1, h⟩ := Option.bind_eq_some_iff.1 h
 refine L.C (C.callE (l := true) [] Try.func52 (impl_IsTable.ac _ _ _ _ _ hc1) .nil ?_)
 refine L.Y Y.nt ?_
 refine L.Y Y.mv ?_
 refine L.Gc (fun hb => ?_) (fun hb => ?_)
 ·
  have hb2 := hb
  try simp only [hS, hE, ne_eq] at hb
  first | rw [if_pos hb2] at h | rw [if_neg (Bool.eq_false_iff.1 hb2)] at h | rw [if_pos hb] at h | rw [if_neg hb] at h | (simp only [hb, hT, reduceIte] at h) | skip
  refine L.Gn hb2 ?_
  refine L.Gn hb2 ?_
  refine L.Gn hb2 ?_
  refine L.Gn hb2 ?_
  refine L.Y (Y.pk (c := true) hb2) ?_
  refine AList.nil ?_
  refine W.cond (fun hb => ?_) (fun hb => ?_)
  rotate_left
  ·
   exact DD hb
  have hb3 := hb
  refine AWp.seq ?_
  refine W.kp [0, 1, 2, 4, 5, 15] ?_
  refine AWp.region ?_
  refine L.Y Y.asg ?_
  refine L.Y Y.asg ?_
  refine AList.nil ?_
  simp only [Option.some.injEq, Prod.mk.injEq] at h
  obtain ⟨rfl, rfl⟩ := h
  refine AWp.ret ?_
  exact ⟨.inr rfl, [(4, _), (5, _)], _, ⟨rfl, rfl⟩, IsPart.at [(3, 1)] [1] base0 (H.c .nil) (E.c (E.c .nil))⟩
 ·
  have hb2 := hb
  try simp only [hS, hE, ne_eq] at hb
  first | rw [if_pos hb2] at h | rw [if_neg (Bool.eq_false_iff.1 hb2)] at h | rw [if_pos hb] at h | rw [if_neg hb] at h | (simp only [hb, hT, reduceIte] at h) | skip
  refine L.Gs hb2 (S.ldN Try.underlying28 Y28) ?_
  refine L.Gy hb2 Y.mv ?_
  obtain ⟨t235, hc4, h⟩ := Option.bind_eq_some_iff.1 h
  refine L.GC hb2 (C.callE (l := true) [] Try.func53 (impl_Table_areCells.ac _ _ _ _ _ _ hc4) .nil ?_)
  refine L.Gy hb2 Y.nt ?_
  refine L.Y (Y.pk (c := false) hb2) ?_
  refine AList.nil ?_
  refine W.cond (fun hb => ?_) (fun hb => ?_)
  ·
   have hb5 := hb
   try simp only [hS, hE, ne_eq] at hb
   first | rw [if_pos hb5] at h | rw [if_neg (Bool.eq_false_iff.1 hb5)] at h | rw [if_pos hb] at h | rw [if_neg hb] at h | (simp only [hb, hT, reduceIte] at h) | skip
   refine AWp.seq ?_
   refine W.kp [0, 1, 2, 4, 5, 15] ?_
   refine AWp.region ?_
   refine L.Y Y.asg ?_
   refine L.Y Y.asg ?_
   refine AList.nil ?_
   simp only [Option.some.injEq, Prod.mk.injEq] at h
   obtain ⟨rfl, rfl⟩ := h
   refine AWp.ret ?_
   exact ⟨.inr rfl, [(4, _), (5, _)], _, ⟨rfl, rfl⟩, IsPart.at [(3, 1)] [1] base0 (H.c .nil) (E.c (E.c .nil))⟩
  ·
   have hb5 := hb
   try simp only [hS, hE, ne_eq] at hb
   first | rw [if_pos hb5] at h | rw [if_neg (Bool.eq_false_iff.1 hb5)] at h | rw [if_pos hb] at h | rw [if_neg hb] at h | (simp only [hb, hT, reduceIte] at h) | skip
   refine AWp.skip ?_
   refine AWp.seq ?_
   refine W.kp [0, 1, 2, 4, 5, 15] ?_
   refine AWp.region ?_
   refine L.S (S.ldN Try.underlying28 Y28) ?_
   refine L.Y Y.mv ?_
   obtain ⟨t236, hc6, h⟩ := Option.bind_eq_some_iff.1 h
   rcases Classical.em (t236 = []) with hq | hq
   ·
    have hq0 : t236.length = 0 := by rw [hq]; rfl
    have hq1 : (ints .i64 t236) = [] := by rw [hq]; rfl
    refine L.C (C.callE (l := true) [] Try.func54 ((impl_Table_freeOrder.acq _ _ _ _ _ _ hc6).conseq (fun _ _ q => q.elim (fun z => z.2) (fun z => absurd hq z.1))) .nil ?_)
    refine L.Y Y.asg ?_
    refine AList.nil ?_
    refine AWp.seq ?_
    refine AWp.region ?_
    refine L.Y Y.mv ?_
    refine L.Y Y.mv ?_
    refine L.Y (Y.nn Try.underlying22) ?_
    refine L.Y Y.asg ?_
    refine L.Y Y.asg ?_
    refine AList.nil ?_
    rw [if_pos hq] at h
    simp only [Option.some.injEq, Prod.mk.injEq] at h
    obtain ⟨rfl, rfl⟩ := h
    refine AWp.ret ?_
    exact ⟨.inr rfl, [(4, _), (5, _)], _, ⟨rfl, rfl⟩, IsPart.at [(3, 1)] [1] base0 (H.c .nil) (E.c (E.c .nil))⟩
   ·
    skip
    refine L.C (C.callE (l := true) [] Try.func54 ((impl_Table_freeOrder.acq _ _ _ _ _ _ hc6).conseq (fun _ _ q => q.elim (fun z => absurd z.1 hq) (fun z => z.2))) .nil ?_)
    refine L.Y Y.asg ?_
    refine AList.nil ?_
    refine AWp.seq ?_
    refine AWp.region ?_
    refine L.Y Y.mv ?_
    refine L.Y Y.mv ?_
    refine L.Y (Y.nn Try.underlying22) ?_
    refine L.Y Y.asg ?_
    refine L.Y Y.asg ?_
    refine AList.nil ?_
    rw [if_neg hq] at h
    simp only [Option.some.injEq, Prod.mk.injEq] at h
    obtain ⟨rfl, rfl⟩ := h
    refine AWp.ret ?_
    exact ⟨.inr rfl, [(4, _), (5, _)], _, ⟨rfl, rfl⟩, IsPart.at [] [1] base0 (H.c .nil) (E.c (E.c .nil))⟩

/-! ### laws_vSame: function 26 -/
def laws_vSame.l0 : Nat → List Int → List Int → Int → Int → Option (Bool)
 | 0, _, _, _, _ => none
 | k + 1, x0, x1, x12, x13 => if x13 < x12 then (if 0 ≤ x13 then (if x13 < (x0.length : Int) then (if x13 < (x1.length : Int) then (if (rd x0 x13) = (rd x1 x13) then (laws_vSame.l0 k x0 x1 x12 (wrap64 (x13 + 1))) else (some false)) else (none)) else (none)) else (none)) else (some true)
def laws_vSame.f (k : Nat) (l0 : List Int) (l1 : List Int) : Option (Bool) := if (l0.length : Int) = (l1.length : Int) then (laws_vSame.l0 k l0 l1 (l0.length : Int) 0) else (some false)
set_option maxRecDepth 100000 in
set_option maxHeartbeats 20000000 in
theorem laws_vSame.ac (k : Nat) (l0 : List Int) (l1 : List Int) (r : Bool) (h : laws_vSame.f k l0 l1 = some r) :
  ACalls Try.prog 26 [.row 1 l0.length false (ints .i64 l0), .row 1 l1.length false (ints .i64 l1)] [] (fun v H' => v = .lit (.bool r) ∧ H' = []) := by
 refine ACalls.ofP [4] Try.func26 rfl (by exact Nat.le_of_ble_eq_true rfl) rfl (by decide) ?_
 simp only [Try.ntmps26, env0, laws_vSame.f] at h ⊢
 refine AWp.seq ?_
 refine AWp.region ?_
 refine L.Y Y.asg ?_
 refine AList.nil ?_
 refine AWp.seq ?_
 refine AWp.seq ?_
 refine AWp.region ?_
 refine L.Y Y.mv ?_
 refine L.Y (Y.ln Try.underlying22) ?_
 refine L.Y Y.mv ?_
 refine L.Y (Y.ln Try.underlying22) ?_
 refine L.Y Y.bin ?_
 refine AList.nil ?_
 refine W.cond (fun hb => ?_) (fun hb => ?_)
 ·
  have hb1 := hb
  try simp only [hS, hE, ne_eq] at hb
  first | rw [if_pos hb1] at h | rw [if_neg (Bool.eq_false_iff.1 hb1)] at h | rw [if_pos hb] at h | rw [if_neg hb] at h | (simp only [hb, hT, reduceIte] at h) | skip
  refine AWp.seq ?_
  refine W.kp [0, 1, 4, 10] ?_
  refine AWp.region ?_
  refine L.Y Y.asg ?_
  refine AList.nil ?_
  obtain rfl := Option.some.inj h
  refine AWp.ret ?_
  exact ⟨.inr rfl, [(4, _)], _, ⟨rfl, rfl⟩, IsPart.at [] [] base0 .nil (E.c .nil)⟩
 ·
  have hb1 := hb
  try simp only [hS, hE, ne_eq] at hb
  first | rw [if_pos hb1] at h | rw [if_neg (Bool.eq_false_iff.1 hb1)] at h | rw [if_pos hb] at h | rw [if_neg hb] at h | (simp only [hb, hT, reduceIte] at h) | skip
  refine AWp.skip ?_
  refine AWp.seq ?_
  refine AWp.seq ?_
  refine W.kp [0, 1, 4, 10] ?_
  refine AWp.region ?_
  refine L.Y Y.mv ?_
  refine L.Y (Y.ln Try.underlying22) ?_
  refine L.Y Y.mv ?_
  refine AList.nil ?_
  refine AWp.block ?_
  refine AWp.loopI (fun kk e H => kk ≤ k ∧ ∃ (x12 : Int) (x13 : Int), e = [(0, .row 1 l0.length false (ints .i64 l0)), (1, .row 1 l1.length false (ints .i64 l1)), (12, .lit (.int .i64 x12)), (13, .lit (.int .i64 x13))] ∧ H = [] ∧ laws_vSame.l0 kk l0 l1 x12 x13 = some r) (k := k)
   ⟨_, _, ⟨Nat.le_refl _, _, _, rfl, rfl, h⟩, IsPart.at [] [] base0 .nil (E.c (E.c (E.c (E.c .nil))))⟩ ?_
  clear h
  rintro k2 e H ⟨hk3, x12, x13, rfl, rfl, h⟩
  cases k2 with
  | zero => exact absurd h (by simp [laws_vSame.l0])
  | succ k2 =>
  simp only [laws_vSame.l0] at h
  refine AWp.seq ?_
  refine AWp.region ?_
  refine L.Y Y.bin ?_
  refine AList.nil ?_
  refine AWp.seq ?_
  refine W.cond (fun hb => ?_) (fun hb => ?_)
  ·
   have hb4 := hb
   try simp only [hS, hE, ne_eq] at hb
   first | rw [if_pos hb4] at h | rw [if_neg (Bool.eq_false_iff.1 hb4)] at h | rw [if_pos hb] at h | rw [if_neg hb] at h | (simp only [hb, hT, reduceIte] at h) | skip
   repeat (first | (rw [iN] at h; obtain ⟨_, h⟩ := h) | (rw [iP] at h; obtain ⟨_, h⟩ := h) | (simp only [bS] at h))
   refine AWp.skip ?_
   refine AWp.seq ?_
   refine AWp.block ?_
   refine AWp.seq ?_
   refine AWp.region ?_
   refine L.Y Y.mv ?_
   refine L.Y Y.asg ?_
   refine AList.nil ?_
   refine AWp.seq ?_
   refine Dt.reg [] [] (.y 0 (.y 1 (.y 2 (.t 3 (.y 4 (.y 5 (.y 6 (.t 7 (.y 8 .done))))))))) HM ?_
   refine Dt.Y rfl wantN Y.mv ?_
   refine Dt.Y rfl wantN Y.mv ?_
   refine Dt.Y rfl wantN (Y.ixr Try.underlying22 Y3) ?_
   refine Dt.T rfl wantN (D.ld Try.underlying3) ?_
   refine Dt.Y rfl wantN Y.mv ?_
   refine Dt.Y rfl wantN Y.mv ?_
   refine Dt.Y rfl wantN (Y.ixr Try.underlying22 Y3) ?_
   refine Dt.T rfl wantN (D.ld Try.underlying3) ?_
   refine Dt.Y rfl wantN Y.bin ?_
   refine Dt.nil ?_
   refine W.cond (fun hb => ?_) (fun hb => ?_)
   ·
    have hb5 := hb
    try simp only [hS, hE, ne_eq] at hb
    first | rw [if_pos hb5] at h | rw [if_neg (Bool.eq_false_iff.1 hb5)] at h | rw [if_pos hb] at h | rw [if_neg hb] at h | (simp only [hb, hT, reduceIte] at h) | skip
    refine AWp.seq ?_
    refine W.kp [0, 1, 5, 12, 13, 14, 24] ?_
    refine AWp.region ?_
    refine L.Y Y.asg ?_
    refine AList.nil ?_
    obtain rfl := Option.some.inj h
    refine AWp.ret ?_
    exact ⟨.inr rfl, [(4, _)], _, ⟨rfl, rfl⟩, IsPart.at [] [] base0 .nil (E.c .nil)⟩
   ·
    have hb5 := hb
    try simp only [hS, hE, ne_eq] at hb
    first | rw [if_pos hb5] at h | rw [if_neg (Bool.eq_false_iff.1 hb5)] at h | rw [if_pos hb] at h | rw [if_neg hb] at h | (simp only [hb, hT, reduceIte] at h) | skip
    refine AWp.skip ?_
    refine W.kp [0, 1, 5, 12, 13, 14, 24] ?_
    refine AWp.region ?_
    refine L.Y Y.bin ?_
    refine L.Y Y.mv ?_
    refine AList.nil ?_
    exact ⟨k2, by omega, _, _, ⟨by omega, _, _, rfl, rfl, h⟩, IsPart.at [] [] base0 .nil (E.c (E.c (E.c (E.c .nil))))⟩
  ·
   have hb4 := hb
   try simp only [hS, hE, ne_eq] at hb
   first | rw [if_pos hb4] at h | rw [if_neg (Bool.eq_false_iff.1 hb4)] at h | rw [if_pos hb] at h | rw [if_neg hb] at h | (simp only [hb, hT, reduceIte] at h) | skip
   refine AWp.exit ?_
   refine AWp.seq ?_
   refine AWp.region ?_
   refine L.Y Y.asg ?_
   refine AList.nil ?_
   obtain rfl := Option.some.inj h
   refine AWp.ret ?_
   exact ⟨.inr rfl, [(4, _)], _, ⟨rfl, rfl⟩, IsPart.at [] [] base0 .nil (E.c .nil)⟩

/-! ### laws_vTable: function 25 -/
def laws_vTable.f (k : Nat) (a0_0 : Int) (a0_1 : Int) (l0_2 : List Int) (a1_0 : Int) (a1_1 : Int) (l1_2 : List Int) : Option (Bool) := if a0_0 = a1_0 then (if a0_1 = a1_1 then ((laws_vSame.f k l0_2 l1_2).bind fun t243 => (some t243)) else (some false)) else (some false)
set_option maxRecDepth 100000 in
set_option maxHeartbeats 20000000 in
theorem laws_vTable.ac (k : Nat) (a0_0 : Int) (a0_1 : Int) (l0_2 : List Int) (a1_0 : Int) (a1_1 : Int) (l1_2 : List Int) (r : Bool) (h : laws_vTable.f k a0_0 a0_1 l0_2 a1_0 a1_1 l1_2 = some r) :
  ACalls Try.prog 25 [.agg [.lit (.int .i64 a0_0), .lit (.int .i64 a0_1), .row 1 l0_2.length false (ints .i64 l0_2)], .agg [.lit (.int .i64 a1_0), .lit (.int .i64 a1_1), .row 1 l1_2.length false (ints .i64 l1_2)]] [] (fun v H' => v = .lit (.bool r) ∧ H' = []) := by
 refine ACalls.ofP [4] Try.func25 rfl (by exact Nat.le_of_ble_eq_true rfl) rfl (by decide) ?_
 simp only [Try.ntmps25, env0, laws_vTable.f] at h ⊢
 refine AWp.seq ?_
 refine AWp.region ?_
 refine L.M M.bx ?_
 refine L.M M.bx ?_
 refine L.Y Y.asg ?_
 refine AList.nil ?_
 refine AWp.seq ?_
 refine AWp.region ?_
 refine L.Y (Y.fa (off := 0) Try.underlying28 Y3) ?_
 refine L.S (S.ld Try.underlying3) ?_
 refine L.Y (Y.fa (off := 0) Try.underlying28 Y3) ?_
 refine L.S (S.ld Try.underlying3) ?_
 refine L.Y Y.bin ?_
 refine L.Y Y.mv ?_
 refine L.Gc (fun hb => ?_) (fun hb => ?_)
 ·
  have hb1 := hb
  try simp only [hS, hE, ne_eq] at hb
  first | rw [if_pos hb1] at h | rw [if_neg (Bool.eq_false_iff.1 hb1)] at h | rw [if_pos hb] at h | rw [if_neg hb] at h | (simp only [hb, hT, reduceIte] at h) | skip
  refine L.Gy hb1 (Y.fa (off := 1) Try.underlying28 Y3) ?_
  refine L.Gs hb1 (S.ld Try.underlying3) ?_
  refine L.Gy hb1 (Y.fa (off := 1) Try.underlying28 Y3) ?_
  refine L.Gs hb1 (S.ld Try.underlying3) ?_
  refine L.Gy hb1 Y.bin ?_
  refine L.Y (Y.pk (c := true) hb1) ?_
  refine L.Y Y.mv ?_
  refine L.Gc (fun hb => ?_) (fun hb => ?_)
  ·
   have hb2 := hb
   try simp only [hS, hE, ne_eq] at hb
   first | rw [if_pos hb2] at h | rw [if_neg (Bool.eq_false_iff.1 hb2)] at h | rw [if_pos hb] at h | rw [if_neg hb] at h | (simp only [hb, hT, reduceIte] at h) | skip
   refine L.Gy hb2 (Y.fa (off := 2) Try.underlying28 Y22) ?_
   refine L.Gs hb2 (S.ld Try.underlying22) ?_
   refine L.Gy hb2 (Y.fa (off := 2) Try.underlying28 Y22) ?_
   refine L.Gs hb2 (S.ld Try.underlying22) ?_
   obtain ⟨t243, hc3, h⟩ := Option.bind_eq_some_iff.1 h
   refine L.GC hb2 (C.callE (l := true) [] Try.func26 (laws_vSame.ac _ _ _ _ hc3) .nil ?_)
   refine L.Y (Y.pk (c := true) hb2) ?_
   refine L.Y Y.asg ?_
   refine AList.nil ?_
   obtain rfl := Option.some.inj h
   refine AWp.ret ?_
   exact ⟨.inr rfl, [(4, _)], _, ⟨rfl, rfl⟩, IsPart.at [] [] base0 .nil (E.c .nil)⟩
  ·
   have hb2 := hb
   try simp only [hS, hE, ne_eq] at hb
   first | rw [if_pos hb2] at h | rw [if_neg (Bool.eq_false_iff.1 hb2)] at h | rw [if_pos hb] at h | rw [if_neg hb] at h | (simp only [hb, hT, reduceIte] at h) | skip
   refine L.Gn hb2 ?_
   refine L.Gn hb2 ?_
   refine L.Gn hb2 ?_
   refine L.Gn hb2 ?_
   refine L.Gn hb2 ?_
   refine L.Y (Y.pk (c := false) hb2) ?_
   refine L.Y Y.asg ?_
   refine AList.nil ?_
   obtain rfl := Option.some.inj h
   refine AWp.ret ?_
   exact ⟨.inr rfl, [(4, _)], _, ⟨rfl, rfl⟩, IsPart.at [] [] base0 .nil (E.c .nil)⟩
 ·
  have hb1 := hb
  try simp only [hS, hE, ne_eq] at hb
  first | rw [if_pos hb1] at h | rw [if_neg (Bool.eq_false_iff.1 hb1)] at h | rw [if_pos hb] at h | rw [if_neg hb] at h | (simp only [hb, hT, reduceIte] at h) | skip
  refine L.Gn hb1 ?_
  refine L.Gn hb1 ?_
  refine L.Gn hb1 ?_
  refine L.Gn hb1 ?_
  refine L.Gn hb1 ?_
  refine L.Y (Y.pk (c := false) hb1) ?_
  refine L.Y Y.mv ?_
  refine L.Gc (fun hb => ?_) (fun hb => ?_)
  ·
   exact DD hb
  have hb4 := hb
  refine L.Gn hb4 ?_
  refine L.Gn hb4 ?_
  refine L.Gn hb4 ?_
  refine L.Gn hb4 ?_
  refine L.Gn hb4 ?_
  refine L.Y (Y.pk (c := false) hb4) ?_
  refine L.Y Y.asg ?_
  refine AList.nil ?_
  obtain rfl := Option.some.inj h
  refine AWp.ret ?_
  exact ⟨.inr rfl, [(4, _)], _, ⟨rfl, rfl⟩, IsPart.at [] [] base0 .nil (E.c .nil)⟩

end Go.Proofs.Ytpippjgphndjmaa.PFnMeetsOfBiorders
