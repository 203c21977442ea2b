-- Written by a program of this session's (wip/myprint2): the functions by the kit's print, the walks by awgen.py. Lean checks it.
import Derived.Test.YtpippjgphndjmaaPFnCoversx0
import Derived.Test.YtpippjgphndjmaaPFnCoversx4
namespace Go.Proofs.Ytpippjgphndjmaa.PFnCovers
open Go.RowKit Go.Proofs.YtpippjgphndjmaaW.PrintWords Go.Proofs.YtpippjgphndjmaaW.PrintLast Go.Proofs.YtpippjgphndjmaaW.PrintMore Go.Proofs.YtpippjgphndjmaaM Go.Proofs.YtpippjgphndjmaaA
attribute [local go_sem] max2_int min2_int max_two min_two max_three min_three max_four min_four   -- for this text's walks alone
set_option linter.unusedVariables false
set_option linter.unusedSimpArgs false

/-! ### impl_table: function 58 -/
mutual
def impl_table.l0 : Nat → Int → (Int → Int → Option Bool) → Int → Int → Int → Int → List Int → Option (Int × Int × List Int)
 | 0, _, _, _, _, _, _, _ => none
 | k + 1, x1, x2, x15, x16, x376000, x376001, x376002 => if x16 < x15 then (impl_table.l1 k x1 x2 x16 x15 x16 x1 0 x376000 x376001 x376002) else (some (x376000, x376001, x376002))
def impl_table.l1 : Nat → Int → (Int → Int → Option Bool) → Int → Int → Int → Int → Int → Int → Int → List Int → Option (Int × Int × List Int)
 | 0, _, _, _, _, _, _, _, _, _, _ => none
 | k + 1, x1, x2, x8, x15, x16, x19, x20, x376000, x376001, x376002 => if x20 < x19 then ((x2 x8 x20).bind fun t376 => (if t376 = true then (if 0 ≤ x8 then (if x8 < (x376002.length : Int) then (if 0 ≤ x20 then (impl_table.l1 k x1 x2 x8 x15 x16 x19 (wrap64 (x20 + 1)) x376000 x376001 (x376002.set (x8 : Int).toNat (Go.bits .or .i64 (rd x376002 x8) (shl .i64 1 x20)))) else (none)) else (none)) else (none)) else (impl_table.l1 k x1 x2 x8 x15 x16 x19 (wrap64 (x20 + 1)) x376000 x376001 x376002))) else (impl_table.l0 k x1 x2 x15 (wrap64 (x16 + 1)) x376000 x376001 x376002)
end
def impl_table.f (k : Nat) (a0 : Int) (a1 : Int) (a2 : (Int → Int → Option Bool)) : Option (Int × Int × List Int) := if 0 ≤ a0 then (if (a0 : Int).toNat ≤ 35184372088832 then (impl_table.l0 k a1 a2 a0 0 a0 a1 (List.replicate (a0 : Int).toNat 0)) else (none)) else (none)
set_option maxRecDepth 100000 in
set_option maxHeartbeats 20000000 in
theorem impl_table.ac (k : Nat) (a0 : Int) (a1 : Int) (a2 : Int → Int → Option Bool) (r1 : Int) (r2 : Int) (r3 : List Int) (h : impl_table.f k a0 a1 a2 = some (r1, r2, r3)) (F2 : FuncId) (cs2 : List AV) (hF2 : FnOk Try.prog F2) (hnf2 : noids cs2 = true) (hcf2 : ∀ x_ y_ r_, a2 x_ y_ = some r_ → ACalls Try.prog F2 (.lit (.int .i64 x_) :: .lit (.int .i64 y_) :: cs2) [] (fun v H' => v = .lit (.bool r_) ∧ H' = [])) :
  ACalls Try.prog 58 [.lit (.int .i64 a0), .lit (.int .i64 a1), .fn F2 cs2] [] (fun v H' => v = .agg [.lit (.int .i64 r1), .lit (.int .i64 r2), .own 0 r3.length] ∧ H' = [.sl 3 1 r3.length false (ints .i64 r3)]) := by
 obtain ⟨fn2, hff2, hnm2, hbd2⟩ := id hF2
 refine ACalls.ofV Try.func58 rfl (by exact Nat.le_of_ble_eq_true rfl) ?_
 simp only [Try.ntmps58, env0, impl_table.f] at h ⊢
 repeat (first | (rw [iN] at h; obtain ⟨_, h⟩ := h) | (rw [iP] at h; obtain ⟨_, h⟩ := h) | (simp only [bS] at h))
 refine AWp.seq ?_
 refine AWp.region ?_
 refine L.M (M.al Y28) ?_
 refine AList.nil ?_
 refine AWp.seq ?_
 refine AWp.region ?_
 refine L.Y Y.mv ?_
 refine L.Y Y.mv ?_
 refine L.Y Y.mv ?_
 refine L.M (M.mk Try.underlying22 Y3) ?_
 refine L.Y (Y.bd Try.underlying28 Y28 P28) ?_
 refine L.M (M.al Y28) ?_
 refine L.S (S.stb Y28) ?_
 refine AList.nil ?_
 refine AWp.seq ?_
 refine AWp.seq ?_
 refine W.kp [0, 1, 2, 6, 7] ?_
 refine AWp.region ?_
 refine L.Y Y.mv ?_
 refine L.Y Y.mv ?_
 refine AList.nil ?_
 refine AWp.block ?_
 refine AWp.loopI (fun kk e H => kk ≤ k ∧ ∃ (x1 : Int) (x15 : Int) (x16 : Int) (x372000 : Int) (x372001 : Int) (x376000 : Int) (x376001 : Int) (x376002 : List Int), e = [(1, .lit (.int .i64 x1)), (2, .fn F2 cs2), (6, .ptr 0 0), (7, .ptr 1 0), (15, .lit (.int .i64 x15)), (16, .lit (.int .i64 x16))] ∧ H = [.bx 28 [.lit (.int .i64 x372000), .lit (.int .i64 x372001), .lit (.slice none 0 0)], .bx 28 [.lit (.int .i64 x376000), .lit (.int .i64 x376001), .own 2 x376002.length], .sl 3 1 x376002.length true (ints .i64 x376002)] ∧ impl_table.l0 kk x1 a2 x15 x16 x376000 x376001 x376002 = some (r1, r2, r3)) (k := k)
  ⟨_, _, ⟨Nat.le_refl _, _, _, _, _, _, _, _, _, rfl, rfl, h⟩, IsPart.at [] [0, 2, 1] base0 (H.c (H.c (H.c .nil))) (E.c (E.c (E.c (E.c (E.c (E.c .nil))))))⟩ ?_
 clear h
 rintro k1 e H ⟨hk2, x1, x15, x16, x372000, x372001, x376000, x376001, x376002, rfl, rfl, h⟩
 cases k1 with
 | zero => exact absurd h (by simp [impl_table.l0])
 | succ k1 =>
 simp only [impl_table.l0] at h
 refine AWp.seq ?_
 refine AWp.region ?_
 refine L.Y Y.bin ?_
 refine AList.nil ?_
 refine AWp.seq ?_
 refine W.cond (fun hb => ?_) (fun hb => ?_)
 ·
  have hb3 := hb
  try simp only [hS, hE, ne_eq] at hb
  first | rw [if_pos hb3] at h | rw [if_neg (Bool.eq_false_iff.1 hb3)] at h | rw [if_pos hb] at h | rw [if_neg hb] at h | (simp only [hb, hT, reduceIte] at h) | skip
  refine AWp.skip ?_
  refine AWp.seq ?_
  refine AWp.block ?_
  refine AWp.seq ?_
  refine AWp.region ?_
  refine L.Y Y.mv ?_
  refine L.Y Y.asg ?_
  refine AList.nil ?_
  refine AWp.seq ?_
  refine AWp.region ?_
  refine L.Y Y.mv ?_
  refine L.Y Y.mv ?_
  refine AList.nil ?_
  refine AWp.block ?_
  refine AWp.loopI (fun kk e H => kk ≤ k1 ∧ ∃ (x1 : Int) (x8 : Int) (x15 : Int) (x16 : Int) (x19 : Int) (x20 : Int) (x372000 : Int) (x372001 : Int) (x376000 : Int) (x376001 : Int) (x376002 : List Int), e = [(1, .lit (.int .i64 x1)), (2, .fn F2 cs2), (6, .ptr 0 0), (7, .ptr 1 0), (8, .lit (.int .i64 x8)), (15, .lit (.int .i64 x15)), (16, .lit (.int .i64 x16)), (19, .lit (.int .i64 x19)), (20, .lit (.int .i64 x20))] ∧ H = [.bx 28 [.lit (.int .i64 x372000), .lit (.int .i64 x372001), .lit (.slice none 0 0)], .bx 28 [.lit (.int .i64 x376000), .lit (.int .i64 x376001), .own 2 x376002.length], .sl 3 1 x376002.length true (ints .i64 x376002)] ∧ impl_table.l1 kk x1 a2 x8 x15 x16 x19 x20 x376000 x376001 x376002 = some (r1, r2, r3)) (k := k1)
   ⟨_, _, ⟨Nat.le_refl _, _, _, _, _, _, _, _, _, _, _, _, rfl, rfl, h⟩, IsPart.at [] [0, 1, 2] base0 (H.c (H.c (H.c .nil))) (E.c (E.c (E.c (E.c (E.c (E.c (E.c (E.c (E.c .nil)))))))))⟩ ?_
  clear h
  rintro k4 e H ⟨hk5, x1, x8, x15, x16, x19, x20, x372000, x372001, x376000, x376001, x376002, rfl, rfl, h⟩
  cases k4 with
  | zero => exact absurd h (by simp [impl_table.l1])
  | succ k4 =>
  simp only [impl_table.l1] at h
  refine AWp.seq ?_
  refine AWp.region ?_
  refine L.Y Y.bin ?_
  refine AList.nil ?_
  refine AWp.seq ?_
  refine W.cond (fun hb => ?_) (fun hb => ?_)
  ·
   have hb6 := hb
   try simp only [hS, hE, ne_eq] at hb
   first | rw [if_pos hb6] at h | rw [if_neg (Bool.eq_false_iff.1 hb6)] at h | rw [if_pos hb] at h | rw [if_neg hb] at h | (simp only [hb, hT, reduceIte] at h) | skip
   refine AWp.skip ?_
   refine AWp.seq ?_
   refine AWp.block ?_
   refine AWp.seq ?_
   refine AWp.region ?_
   refine L.Y Y.mv ?_
   refine L.Y Y.asg ?_
   refine AList.nil ?_
   refine AWp.seq ?_
   refine AWp.region ?_
   refine L.Y Y.mv ?_
   refine L.Y Y.mv ?_
   refine L.Y Y.mv ?_
   obtain ⟨t376, hc7, h⟩ := Option.bind_eq_some_iff.1 h
   refine L.C (C.callE (l := true) [] hff2 (hcf2 _ _ _ hc7) .nil ?_ (hname := hnm2) (hb := hbd2))
   refine AList.nil ?_
   refine W.cond (fun hb => ?_) (fun hb => ?_)
   ·
    have hb8 := hb
    try simp only [hS, hE, ne_eq] at hb
    first | rw [if_pos hb8] at h | rw [if_neg (Bool.eq_false_iff.1 hb8)] at h | rw [if_pos hb] at h | rw [if_neg hb] at h | (simp only [hb, hT, reduceIte] at h) | skip
    repeat (first | (rw [iN] at h; obtain ⟨_, h⟩ := h) | (rw [iP] at h; obtain ⟨_, h⟩ := h) | (simp only [bS] at h))
    refine W.kp [1, 2, 6, 7, 8, 9, 15, 16, 19, 20, 21, 26] ?_
    refine Dt.reg [] [9] (.y 0 (.t 1 (.y 2 (.y 3 (.t 4 (.y 5 (.y 6 (.y 7 (.y 8 (.last 9 .done)))))))))) HM ?_
    refine Dt.Y rfl wantN (Y.fa (off := 2) Try.underlying28 Y22) ?_
    refine Dt.T rfl wantN (D.ld Try.underlying22) ?_
    refine Dt.Y rfl wantN Y.mv ?_
    refine Dt.Y rfl wantN (Y.ixo Try.underlying22 Y3) ?_
    refine Dt.T rfl wantN (D.ld Try.underlying3) ?_
    refine Dt.Y rfl wantN Y.mv ?_
    refine Dt.Y rfl wantN Y.bin ?_
    refine Dt.Y rfl wantN Y.bin ?_
    refine Dt.Y rfl wantN (Y.ixo Try.underlying22 Y3) ?_
    refine Dt.L rfl wantN ?_
    refine Op.S (S.sts Y3) ?_
    refine Du.nil ?_
    refine W.kp [1, 2, 6, 7, 8, 9, 15, 16, 19, 20, 21, 26] ?_
    refine AWp.region ?_
    refine L.Y Y.bin ?_
    refine L.Y Y.mv ?_
    refine AList.nil ?_
    exact ⟨k4, by omega, _, _, ⟨by omega, _, _, _, _, _, _, _, _, _, _, _, rfl, rfl, h⟩, IsPart.at [] [0, 1, 2] base0 (H.c (H.c (H.c .nil))) (E.c (E.c (E.c (E.c (E.c (E.c (E.c (E.c (E.c .nil)))))))))⟩
   ·
    have hb8 := hb
    try simp only [hS, hE, ne_eq] at hb
    first | rw [if_pos hb8] at h | rw [if_neg (Bool.eq_false_iff.1 hb8)] at h | rw [if_pos hb] at h | rw [if_neg hb] at h | (simp only [hb, hT, reduceIte] at h) | skip
    refine AWp.skip ?_
    refine W.kp [1, 2, 6, 7, 8, 9, 15, 16, 19, 20, 21, 26] ?_
    refine AWp.region ?_
    refine L.Y Y.bin ?_
    refine L.Y Y.mv ?_
    refine AList.nil ?_
    exact ⟨k4, by omega, _, _, ⟨by omega, _, _, _, _, _, _, _, _, _, _, _, rfl, rfl, h⟩, IsPart.at [] [0, 1, 2] base0 (H.c (H.c (H.c .nil))) (E.c (E.c (E.c (E.c (E.c (E.c (E.c (E.c (E.c .nil)))))))))⟩
  ·
   have hb6 := hb
   try simp only [hS, hE, ne_eq] at hb
   first | rw [if_pos hb6] at h | rw [if_neg (Bool.eq_false_iff.1 hb6)] at h | rw [if_pos hb] at h | rw [if_neg hb] at h | (simp only [hb, hT, reduceIte] at h) | skip
   refine AWp.exit ?_
   refine AWp.region ?_
   refine L.Y Y.bin ?_
   refine L.Y Y.mv ?_
   refine AList.nil ?_
   exact ⟨k4, by omega, _, _, ⟨by omega, _, _, _, _, _, _, _, _, rfl, rfl, h⟩, IsPart.at [] [0, 1, 2] base0 (H.c (H.c (H.c .nil))) (E.c (E.c (E.c (E.c (E.c (E.c .nil))))))⟩
 ·
  have hb3 := hb
  try simp only [hS, hE, ne_eq] at hb
  first | rw [if_pos hb3] at h | rw [if_neg (Bool.eq_false_iff.1 hb3)] at h | rw [if_pos hb] at h | rw [if_neg hb] at h | (simp only [hb, hT, reduceIte] at h) | skip
  refine AWp.exit ?_
  refine AWp.seq ?_
  refine AWp.region ?_
  refine L.S (S.ldN Try.underlying28 Y28) ?_
  refine L.S (S.stb Y28) ?_
  refine AList.nil ?_
  simp only [Option.some.injEq, Prod.mk.injEq] at h
  obtain ⟨rfl, rfl, rfl⟩ := h
  refine AWp.ret ?_
  exact ⟨.inr rfl, _, _, _, Res.cl Try.underlying28 Y28, ⟨rfl, rfl⟩, PartV.at [] [2] base0 (H.c .nil)⟩

/-! ### impl_MeetTables_1: function 59 -/
def impl_MeetTables_1.f (a0 : Int) (a1 : Int) (a2_0 : Int) (a2_1 : Int) (l2_2 : List Int) (a3_0 : Int) (a3_1 : Int) (l3_2 : List Int) : Option (Bool) := (impl_Table_marked.f a2_0 a2_1 l2_2 a0 a1).bind fun t379 => (if t379 = true then ((impl_Table_marked.f a3_0 a3_1 l3_2 a0 a1).bind fun t380 => (some t380)) else (some false))
set_option maxRecDepth 100000 in
set_option maxHeartbeats 20000000 in
theorem impl_MeetTables_1.ac (a0 : Int) (a1 : Int) (a2_0 : Int) (a2_1 : Int) (l2_2 : List Int) (a3_0 : Int) (a3_1 : Int) (l3_2 : List Int) (r : Bool) (h : impl_MeetTables_1.f a0 a1 a2_0 a2_1 l2_2 a3_0 a3_1 l3_2 = some r) :
  ACalls Try.prog 59 [.lit (.int .i64 a0), .lit (.int .i64 a1), .rptr [.lit (.int .i64 a2_0), .lit (.int .i64 a2_1), .row 1 l2_2.length false (ints .i64 l2_2)], .rptr [.lit (.int .i64 a3_0), .lit (.int .i64 a3_1), .row 1 l3_2.length false (ints .i64 l3_2)]] [] (fun v H' => v = .lit (.bool r) ∧ H' = []) := by
 refine ACalls.ofP [6] Try.func59 rfl (by exact Nat.le_of_ble_eq_true rfl) rfl (by decide) ?_
 simp only [Try.ntmps59, env0, impl_MeetTables_1.f] at h ⊢
 refine AWp.seq ?_
 refine AWp.region ?_
 refine L.Y Y.asg ?_
 refine AList.nil ?_
 refine AWp.seq ?_
 refine AWp.region ?_
 refine L.S (S.ldN Try.underlying28 Y28) ?_
 refine L.Y Y.mv ?_
 refine L.Y Y.mv ?_
 obtain ⟨t379, hc1, h⟩ := Option.bind_eq_some_iff.1 h
 refine L.C (C.callE (l := true) [] Try.func60 (impl_Table_marked.ac _ _ _ _ _ _ hc1) .nil ?_)
 refine L.Y Y.mv ?_
 refine L.Gc (fun hb => ?_) (fun hb => ?_)
 ·
  have hb2 := hb
  try simp only [hS, hE, ne_eq] at hb
  first | rw [if_pos hb2] at h | rw [if_neg (Bool.eq_false_iff.1 hb2)] at h | rw [if_pos hb] at h | rw [if_neg hb] at h | (simp only [hb, hT, reduceIte] at h) | skip
  refine L.Gs hb2 (S.ldN Try.underlying28 Y28) ?_
  refine L.Gy hb2 Y.mv ?_
  refine L.Gy hb2 Y.mv ?_
  obtain ⟨t380, hc3, h⟩ := Option.bind_eq_some_iff.1 h
  refine L.GC hb2 (C.callE (l := true) [] Try.func60 (impl_Table_marked.ac _ _ _ _ _ _ hc3) .nil ?_)
  refine L.Y (Y.pk (c := true) hb2) ?_
  refine L.Y Y.asg ?_
  refine AList.nil ?_
  obtain rfl := Option.some.inj h
  refine AWp.ret ?_
  exact ⟨.inr rfl, [(6, _)], _, ⟨rfl, rfl⟩, IsPart.at [] [] base0 .nil (E.c .nil)⟩
 ·
  have hb2 := hb
  try simp only [hS, hE, ne_eq] at hb
  first | rw [if_pos hb2] at h | rw [if_neg (Bool.eq_false_iff.1 hb2)] at h | rw [if_pos hb] at h | rw [if_neg hb] at h | (simp only [hb, hT, reduceIte] at h) | skip
  refine L.Gn hb2 ?_
  refine L.Gn hb2 ?_
  refine L.Gn hb2 ?_
  refine L.Gn hb2 ?_
  refine L.Y (Y.pk (c := false) hb2) ?_
  refine L.Y Y.asg ?_
  refine AList.nil ?_
  obtain rfl := Option.some.inj h
  refine AWp.ret ?_
  exact ⟨.inr rfl, [(6, _)], _, ⟨rfl, rfl⟩, IsPart.at [] [] base0 .nil (E.c .nil)⟩

/-! ### impl_MeetTables: function 28 -/
def impl_MeetTables.f (k : Nat) (a0_0 : Int) (a0_1 : Int) (l0_2 : List Int) (a1_0 : Int) (a1_1 : Int) (l1_2 : List Int) : Option (Int × Int × List Int × Bool) := (impl_IsTable.f k a0_0 a0_1 l0_2).bind fun t384 => (if t384 = true then ((impl_IsTable.f k a1_0 a1_1 l1_2).bind fun t385 => (if t385 = true then (if a0_0 = a1_0 then (if a0_1 = a1_1 then ((impl_table.f k a0_0 a0_1 (fun z0_ z1_ => impl_MeetTables_1.f z0_ z1_ a0_0 a0_1 l0_2 a1_0 a1_1 l1_2)).bind fun bt386 => (some (bt386.1, bt386.2.1, bt386.2.2, true))) else (some (0, 0, ([] : List Int), false))) else (some (0, 0, ([] : List Int), false))) else (some (0, 0, ([] : List Int), false)))) else (some (0, 0, ([] : List Int), false)))
set_option maxRecDepth 100000 in
set_option maxHeartbeats 20000000 in
theorem impl_MeetTables.ac (k : Nat) (a0_0 : Int) (a0_1 : Int) (l0_2 : List Int) (a1_0 : Int) (a1_1 : Int) (l1_2 : List Int) (r1 : Int) (r2 : Int) (r3 : List Int) (r4 : Bool) (h : impl_MeetTables.f k a0_0 a0_1 l0_2 a1_0 a1_1 l1_2 = some (r1, r2, r3, r4)) :
  ACalls Try.prog 28 [.agg [.lit (.int .i64 a0_0), .lit (.int .i64 a0_1), .row 1 l0_2.length false (ints .i64 l0_2)], .agg [.lit (.int .i64 a1_0), .lit (.int .i64 a1_1), .row 1 l1_2.length false (ints .i64 l1_2)]] [] (fun v H' => v = .tup [.agg [.lit (.int .i64 r1), .lit (.int .i64 r2), .own 0 r3.length], .lit (.bool r4)] ∧ H' = [.sl 3 1 r3.length false (ints .i64 r3)]) := by
 refine ACalls.ofV Try.func28 rfl (by exact Nat.le_of_ble_eq_true rfl) ?_
 simp only [Try.ntmps28, env0, impl_MeetTables.f] at h ⊢
 refine AWp.seq ?_
 refine AWp.region ?_
 refine L.M M.bx ?_
 refine L.M M.bx ?_
 refine L.M (M.al Y28) ?_
 refine L.Y Y.asg ?_
 refine AList.nil ?_
 refine AWp.seq ?_
 refine AWp.seq ?_
 refine AWp.region ?_
 refine L.S (S.ldN Try.underlying28 Y28) ?_
 obtain ⟨t384, hc1, h⟩ := Option.bind_eq_some_iff.1 h
 refine L.C (C.callE (l := true) [] Try.func52 (impl_IsTable.ac _ _ _ _ _ hc1) .nil ?_)
 refine L.Y Y.nt ?_
 refine L.Y Y.mv ?_
 refine L.Gc (fun hb => ?_) (fun hb => ?_)
 ·
  have hb2 := hb
  try simp only [hS, hE, ne_eq] at hb
  first | rw [if_pos hb2] at h | rw [if_neg (Bool.eq_false_iff.1 hb2)] at h | rw [if_pos hb] at h | rw [if_neg hb] at h | (simp only [hb, hT, reduceIte] at h) | skip
  refine L.Gn hb2 ?_
  refine L.Gn hb2 ?_
  refine L.Gn hb2 ?_
  refine L.Y (Y.pk (c := true) hb2) ?_
  refine L.Y Y.mv ?_
  refine L.Gc (fun hb => ?_) (fun hb => ?_)
  rotate_left
  ·
   exact DD hb
  have hb3 := hb
  refine L.Gn hb3 ?_
  refine L.Gn hb3 ?_
  refine L.Gn hb3 ?_
  refine L.Gn hb3 ?_
  refine L.Gn hb3 ?_
  refine L.Y (Y.pk (c := true) hb3) ?_
  refine L.Y Y.mv ?_
  refine L.Gc (fun hb => ?_) (fun hb => ?_)
  rotate_left
  ·
   exact DD hb
  have hb4 := hb
  refine L.Gn hb4 ?_
  refine L.Gn hb4 ?_
  refine L.Gn hb4 ?_
  refine L.Gn hb4 ?_
  refine L.Gn hb4 ?_
  refine L.Y (Y.pk (c := true) hb4) ?_
  refine AList.nil ?_
  refine W.cond (fun hb => ?_) (fun hb => ?_)
  rotate_left
  ·
   exact DD hb
  have hb5 := hb
  refine AWp.seq ?_
  refine W.kp [0, 1, 2, 3, 4, 5, 27] ?_
  refine AWp.region ?_
  refine L.Y (Y.bd Try.underlying28 Y28 P28) ?_
  refine L.S (S.stb Y28) ?_
  refine L.Y Y.asg ?_
  refine AList.nil ?_
  simp only [Option.some.injEq, Prod.mk.injEq] at h
  obtain ⟨rfl, rfl, rfl, rfl⟩ := h
  refine AWp.ret ?_
  exact ⟨.inr rfl, _, _, _, Res.c2 Try.underlying28 Y28, ⟨rfl, rfl⟩, PartV.at [(3, 1)] [3] base0 (H.c .nil)⟩
 ·
  have hb2 := hb
  try simp only [hS, hE, ne_eq] at hb
  first | rw [if_pos hb2] at h | rw [if_neg (Bool.eq_false_iff.1 hb2)] at h | rw [if_pos hb] at h | rw [if_neg hb] at h | (simp only [hb, hT, reduceIte] at h) | skip
  refine L.Gs hb2 (S.ldN Try.underlying28 Y28) ?_
  obtain ⟨t385, hc6, h⟩ := Option.bind_eq_some_iff.1 h
  refine L.GC hb2 (C.callE (l := true) [] Try.func52 (impl_IsTable.ac _ _ _ _ _ hc6) .nil ?_)
  refine L.Gy hb2 Y.nt ?_
  refine L.Y (Y.pk (c := false) hb2) ?_
  refine L.Y Y.mv ?_
  refine L.Gc (fun hb => ?_) (fun hb => ?_)
  ·
   have hb7 := hb
   try simp only [hS, hE, ne_eq] at hb
   first | rw [if_pos hb7] at h | rw [if_neg (Bool.eq_false_iff.1 hb7)] at h | rw [if_pos hb] at h | rw [if_neg hb] at h | (simp only [hb, hT, reduceIte] at h) | skip
   refine L.Gn hb7 ?_
   refine L.Gn hb7 ?_
   refine L.Gn hb7 ?_
   refine L.Gn hb7 ?_
   refine L.Gn hb7 ?_
   refine L.Y (Y.pk (c := true) hb7) ?_
   refine L.Y Y.mv ?_
   refine L.Gc (fun hb => ?_) (fun hb => ?_)
   rotate_left
   ·
    exact DD hb
   have hb8 := hb
   refine L.Gn hb8 ?_
   refine L.Gn hb8 ?_
   refine L.Gn hb8 ?_
   refine L.Gn hb8 ?_
   refine L.Gn hb8 ?_
   refine L.Y (Y.pk (c := true) hb8) ?_
   refine AList.nil ?_
   refine W.cond (fun hb => ?_) (fun hb => ?_)
   rotate_left
   ·
    exact DD hb
   have hb9 := hb
   refine AWp.seq ?_
   refine W.kp [0, 1, 2, 3, 4, 5, 27] ?_
   refine AWp.region ?_
   refine L.Y (Y.bd Try.underlying28 Y28 P28) ?_
   refine L.S (S.stb Y28) ?_
   refine L.Y Y.asg ?_
   refine AList.nil ?_
   simp only [Option.some.injEq, Prod.mk.injEq] at h
   obtain ⟨rfl, rfl, rfl, rfl⟩ := h
   refine AWp.ret ?_
   exact ⟨.inr rfl, _, _, _, Res.c2 Try.underlying28 Y28, ⟨rfl, rfl⟩, PartV.at [(3, 1)] [3] base0 (H.c .nil)⟩
  ·
   have hb7 := hb
   try simp only [hS, hE, ne_eq] at hb
   first | rw [if_pos hb7] at h | rw [if_neg (Bool.eq_false_iff.1 hb7)] at h | rw [if_pos hb] at h | rw [if_neg hb] at h | (simp only [hb, hT, reduceIte] at h) | skip
   refine L.Gy hb7 (Y.fa (off := 0) Try.underlying28 Y3) ?_
   refine L.Gs hb7 (S.ld Try.underlying3) ?_
   refine L.Gy hb7 (Y.fa (off := 0) Try.underlying28 Y3) ?_
   refine L.Gs hb7 (S.ld Try.underlying3) ?_
   refine L.Gy hb7 Y.bin ?_
   refine L.Y (Y.pk (c := false) hb7) ?_
   refine L.Y Y.mv ?_
   refine L.Gc (fun hb => ?_) (fun hb => ?_)
   ·
    have hb10 := hb
    try simp only [hS, hE, ne_eq] at hb
    first | rw [if_pos hb10] at h | rw [if_neg (Bool.eq_false_iff.1 hb10)] at h | rw [if_pos hb] at h | rw [if_neg hb] at h | (simp only [hb, hT, reduceIte] at h) | skip
    refine L.Gn hb10 ?_
    refine L.Gn hb10 ?_
    refine L.Gn hb10 ?_
    refine L.Gn hb10 ?_
    refine L.Gn hb10 ?_
    refine L.Y (Y.pk (c := true) hb10) ?_
    refine AList.nil ?_
    refine W.cond (fun hb => ?_) (fun hb => ?_)
    rotate_left
    ·
     exact DD hb
    have hb11 := hb
    refine AWp.seq ?_
    refine W.kp [0, 1, 2, 3, 4, 5, 27] ?_
    refine AWp.region ?_
    refine L.Y (Y.bd Try.underlying28 Y28 P28) ?_
    refine L.S (S.stb Y28) ?_
    refine L.Y Y.asg ?_
    refine AList.nil ?_
    simp only [Option.some.injEq, Prod.mk.injEq] at h
    obtain ⟨rfl, rfl, rfl, rfl⟩ := h
    refine AWp.ret ?_
    exact ⟨.inr rfl, _, _, _, Res.c2 Try.underlying28 Y28, ⟨rfl, rfl⟩, PartV.at [(3, 1)] [3] base0 (H.c .nil)⟩
   ·
    have hb10 := hb
    try simp only [hS, hE, ne_eq] at hb
    first | rw [if_pos hb10] at h | rw [if_neg (Bool.eq_false_iff.1 hb10)] at h | rw [if_pos hb] at h | rw [if_neg hb] at h | (simp only [hb, hT, reduceIte] at h) | skip
    refine L.Gy hb10 (Y.fa (off := 1) Try.underlying28 Y3) ?_
    refine L.Gs hb10 (S.ld Try.underlying3) ?_
    refine L.Gy hb10 (Y.fa (off := 1) Try.underlying28 Y3) ?_
    refine L.Gs hb10 (S.ld Try.underlying3) ?_
    refine L.Gy hb10 Y.bin ?_
    refine L.Y (Y.pk (c := false) hb10) ?_
    refine AList.nil ?_
    refine W.cond (fun hb => ?_) (fun hb => ?_)
    ·
     have hb12 := hb
     try simp only [hS, hE, ne_eq] at hb
     first | rw [if_pos hb12] at h | rw [if_neg (Bool.eq_false_iff.1 hb12)] at h | rw [if_pos hb] at h | rw [if_neg hb] at h | (simp only [hb, hT, reduceIte] at h) | skip
     refine AWp.seq ?_
     refine W.kp [0, 1, 2, 3, 4, 5, 27] ?_
     refine AWp.region ?_
     refine L.Y (Y.bd Try.underlying28 Y28 P28) ?_
     refine L.S (S.stb Y28) ?_
     refine L.Y Y.asg ?_
     refine AList.nil ?_
     simp only [Option.some.injEq, Prod.mk.injEq] at h
     obtain ⟨rfl, rfl, rfl, rfl⟩ := h
     refine AWp.ret ?_
     exact ⟨.inr rfl, _, _, _, Res.c2 Try.underlying28 Y28, ⟨rfl, rfl⟩, PartV.at [(3, 1)] [3] base0 (H.c .nil)⟩
    ·
     have hb12 := hb
     try simp only [hS, hE, ne_eq] at hb
     first | rw [if_pos hb12] at h | rw [if_neg (Bool.eq_false_iff.1 hb12)] at h | rw [if_pos hb] at h | rw [if_neg hb] at h | (simp only [hb, hT, reduceIte] at h) | skip
     refine AWp.skip ?_
     refine AWp.seq ?_
     refine W.kp [0, 1, 2, 3, 4, 5, 27] ?_
     refine AWp.region ?_
     refine L.Y (Y.fa (off := 0) Try.underlying28 Y3) ?_
     refine L.S (S.ld Try.underlying3) ?_
     refine L.Y (Y.fa (off := 1) Try.underlying28 Y3) ?_
     refine L.S (S.ld Try.underlying3) ?_
     refine L.Y Y.fn ?_
     obtain ⟨⟨t386, t387, t388⟩, hc13, h⟩ := Option.bind_eq_some_iff.1 h
     dsimp only at h
     refine L.C (C.callE (l := true) [] Try.func58 (impl_table.ac _ _ _ _ _ _ _ hc13 59 _ (FnOk.at_ Try.func59) (by simp [noids, noid, noids_ints]) (fun x_ y_ r_ h_ => impl_MeetTables_1.ac x_ y_ _ _ _ _ _ _ r_ h_)) .nil ?_)
     refine L.S (S.stb Y28) ?_
     refine L.Y Y.asg ?_
     refine AList.nil ?_
     simp only [Option.some.injEq, Prod.mk.injEq] at h
     obtain ⟨rfl, rfl, rfl, rfl⟩ := h
     refine AWp.ret ?_
     exact ⟨.inr rfl, _, _, _, Res.c2 Try.underlying28 Y28, ⟨rfl, rfl⟩, PartV.at [] [3] base0 (H.c .nil)⟩

/-! ### laws_vMarked: function 29 -/
def laws_vMarked.f (a0_0 : Int) (a0_1 : Int) (l0_2 : List Int) (a1 : Int) : Option (Bool) := if a0_1 = 0 then (none) else (if 0 ≤ (wrap64 (Int.tdiv a1 a0_1)) then (if (wrap64 (Int.tdiv a1 a0_1)) < (l0_2.length : Int) then (if 0 ≤ (Int.tmod a1 a0_1) then (some ((Int.tmod (shr .i64 (rd l0_2 (wrap64 (Int.tdiv a1 a0_1))) (Int.tmod a1 a0_1)) 2) == 1)) else (none)) else (none)) else (none))
set_option maxRecDepth 100000 in
set_option maxHeartbeats 20000000 in
theorem laws_vMarked.ac (a0_0 : Int) (a0_1 : Int) (l0_2 : List Int) (a1 : Int) (r : Bool) (h : laws_vMarked.f a0_0 a0_1 l0_2 a1 = some r) :
  ACalls Try.prog 29 [.agg [.lit (.int .i64 a0_0), .lit (.int .i64 a0_1), .row 1 l0_2.length false (ints .i64 l0_2)], .lit (.int .i64 a1)] [] (fun v H' => v = .lit (.bool r) ∧ H' = []) := by
 refine ACalls.ofP [4] Try.func29 rfl (by exact Nat.le_of_ble_eq_true rfl) rfl (by decide) ?_
 simp only [Try.ntmps29, env0, laws_vMarked.f] at h ⊢
 repeat (first | (rw [iN] at h; obtain ⟨_, h⟩ := h) | (rw [iP] at h; obtain ⟨_, h⟩ := h) | (simp only [bS] at h))
 refine AWp.seq ?_
 refine AWp.region ?_
 refine L.M M.bx ?_
 refine L.Y Y.asg ?_
 refine AList.nil ?_
 refine AWp.seq ?_
 refine Dt.reg [] [] (.y 0 (.t 1 (.y 2 (.y 3 (.t 4 (.y 5 (.y 6 (.t 7 (.y 8 (.y 9 (.t 10 (.y 11 (.y 12 (.y 13 (.y 14 (.y 15 .done)))))))))))))))) HM ?_
 refine Dt.Y rfl wantN (Y.fa (off := 2) Try.underlying28 Y22) ?_
 refine Dt.T rfl wantN (D.ld Try.underlying22) ?_
 refine Dt.Y rfl wantN Y.mv ?_
 refine Dt.Y rfl wantN (Y.fa (off := 1) Try.underlying28 Y3) ?_
 refine Dt.T rfl wantN (D.ld Try.underlying3) ?_
 refine Dt.Y rfl wantN Y.bin ?_
 refine Dt.Y rfl wantN (Y.ixr Try.underlying22 Y3) ?_
 refine Dt.T rfl wantN (D.ld Try.underlying3) ?_
 refine Dt.Y rfl wantN Y.mv ?_
 refine Dt.Y rfl wantN (Y.fa (off := 1) Try.underlying28 Y3) ?_
 refine Dt.T rfl wantN (D.ld Try.underlying3) ?_
 refine Dt.Y rfl wantN Y.bin ?_
 refine Dt.Y rfl wantN Y.bin ?_
 refine Dt.Y rfl wantN Y.bin ?_
 refine Dt.Y rfl wantN Y.bin ?_
 refine Dt.Y rfl wantN Y.asg ?_
 refine Dt.nil ?_
 obtain rfl := Option.some.inj h
 refine AWp.ret ?_
 exact ⟨.inr rfl, [(4, _)], _, ⟨rfl, rfl⟩, IsPart.at [] [] base0 .nil (E.c .nil)⟩

/-! ### laws_vNumber: function 30 -/
def laws_vNumber.l0 : Nat → Int → List Int → Int → Int → Option (Int)
 | 0, _, _, _, _ => none
 | k + 1, x3, x6, x7, x8 => if x8 < x7 then (if 0 ≤ x8 then (if x8 < (x6.length : Int) then (laws_vNumber.l0 k (Int.tmod (wrap64 ((wrap64 (31 * x3)) + (wrap64 (rd x6 x8)))) 1000003) x6 x7 (wrap64 (x8 + 1))) else (none)) else (none)) else (some x3)
def laws_vNumber.f (k : Nat) (l0 : List Int) : Option (Int) := laws_vNumber.l0 k 0 l0 (l0.length : Int) 0
set_option maxRecDepth 100000 in
set_option maxHeartbeats 20000000 in
theorem laws_vNumber.ac (k : Nat) (l0 : List Int) (r : Int) (h : laws_vNumber.f k l0 = some r) :
  ACalls Try.prog 30 [.row 1 l0.length false (ints .u8 l0)] [] (fun v H' => v = .lit (.int .i64 r) ∧ H' = []) := by
 refine ACalls.ofP [2] Try.func30 rfl (by exact Nat.le_of_ble_eq_true rfl) rfl (by decide) ?_
 simp only [Try.ntmps30, env0, laws_vNumber.f] at h ⊢
 refine AWp.seq ?_
 refine AWp.region ?_
 refine L.Y Y.asg ?_
 refine AList.nil ?_
 refine AWp.seq ?_
 refine AWp.region ?_
 refine L.Y Y.asg ?_
 refine AList.nil ?_
 refine AWp.seq ?_
 refine AWp.seq ?_
 refine AWp.region ?_
 refine L.Y Y.mv ?_
 refine L.Y (Y.ln Try.underlying38) ?_
 refine L.Y Y.mv ?_
 refine AList.nil ?_
 refine AWp.block ?_
 refine AWp.loopI (fun kk e H => kk ≤ k ∧ ∃ (x3 : Int) (x7 : Int) (x8 : Int), e = [(3, .lit (.int .i64 x3)), (6, .row 1 l0.length false (ints .u8 l0)), (7, .lit (.int .i64 x7)), (8, .lit (.int .i64 x8))] ∧ H = [] ∧ laws_vNumber.l0 kk x3 l0 x7 x8 = some r) (k := k)
  ⟨_, _, ⟨Nat.le_refl _, _, _, _, rfl, rfl, h⟩, IsPart.at [] [] base0 .nil (E.c (E.c (E.c (E.c .nil))))⟩ ?_
 clear h
 rintro k1 e H ⟨hk2, x3, x7, x8, rfl, rfl, h⟩
 cases k1 with
 | zero => exact absurd h (by simp [laws_vNumber.l0])
 | succ k1 =>
 simp only [laws_vNumber.l0] at h
 refine AWp.seq ?_
 refine AWp.region ?_
 refine L.Y Y.bin ?_
 refine AList.nil ?_
 refine AWp.seq ?_
 refine W.cond (fun hb => ?_) (fun hb => ?_)
 ·
  have hb3 := hb
  try simp only [hS, hE, ne_eq] at hb
  first | rw [if_pos hb3] at h | rw [if_neg (Bool.eq_false_iff.1 hb3)] at h | rw [if_pos hb] at h | rw [if_neg hb] at h | (simp only [hb, hT, reduceIte] at h) | skip
  repeat (first | (rw [iN] at h; obtain ⟨_, h⟩ := h) | (rw [iP] at h; obtain ⟨_, h⟩ := h) | (simp only [bS] at h))
  refine AWp.skip ?_
  refine AWp.seq ?_
  refine AWp.block ?_
  refine AWp.seq ?_
  refine AWp.region ?_
  refine L.Y (Y.ixr Try.underlying38 Y5) ?_
  refine L.S (S.ld Try.underlying5) ?_
  refine L.Y Y.asg ?_
  refine AList.nil ?_
  refine AWp.region ?_
  refine L.Y Y.mv ?_
  refine L.Y Y.bin ?_
  refine L.Y Y.mv ?_
  refine L.Y (Y.cv Try.underlying5 Try.underlying3) ?_
  refine L.Y Y.bin ?_
  refine L.Y Y.bin ?_
  refine L.Y Y.asg ?_
  refine AList.nil ?_
  refine W.kp [3, 5, 6, 7, 8, 9] ?_
  refine AWp.region ?_
  refine L.Y Y.bin ?_
  refine L.Y Y.mv ?_
  refine AList.nil ?_
  exact ⟨k1, by omega, _, _, ⟨by omega, _, _, _, rfl, rfl, h⟩, IsPart.at [] [] base0 .nil (E.c (E.c (E.c (E.c .nil))))⟩
 ·
  have hb3 := hb
  try simp only [hS, hE, ne_eq] at hb
  first | rw [if_pos hb3] at h | rw [if_neg (Bool.eq_false_iff.1 hb3)] at h | rw [if_pos hb] at h | rw [if_neg hb] at h | (simp only [hb, hT, reduceIte] at h) | skip
  refine AWp.exit ?_
  refine AWp.seq ?_
  refine AWp.region ?_
  refine L.Y Y.mv ?_
  refine L.Y Y.asg ?_
  refine AList.nil ?_
  obtain rfl := Option.some.inj h
  refine AWp.ret ?_
  exact ⟨.inr rfl, [(2, _)], _, ⟨rfl, rfl⟩, IsPart.at [] [] base0 .nil (E.c .nil)⟩

end Go.Proofs.Ytpippjgphndjmaa.PFnCovers
