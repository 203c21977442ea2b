-- Written by a program of this session's (wip/myprint2): the functions by the kit's print, the walks by awgen.py. Lean checks it.
import Derived.Test.YtboaffpfphkneaaPFnExactMeetOfBiordersx0
import Derived.Test.YtboaffpfphkneaaPFnExactMeetOfBiordersx1
import Derived.Test.YtboaffpfphkneaaPFnExactMeetOfBiordersx2
namespace Go.Proofs.Ytboaffpfphkneaa.PFnExactMeetOfBiorders
open Go.RowKit Go.Proofs.YtboaffpfphkneaaW.PrintWords Go.Proofs.YtboaffpfphkneaaW.PrintLast Go.Proofs.YtboaffpfphkneaaW.PrintMore Go.Proofs.YtboaffpfphkneaaM Go.Proofs.YtboaffpfphkneaaA
attribute [local go_sem] max2_int min2_int max_two min_two max_three min_three max_four min_four   -- for this text's walks alone
set_option linter.unusedVariables false
set_option linter.unusedSimpArgs false

/-! ### spec_LeastParts: function 14 -/
def spec_LeastParts.l0 : Nat → Int → Int → Int → List Int → Option (Int × Bool)
 | 0, _, _, _, _ => none
 | k + 1, x4, x160000, x160001, x160002 => if x4 ≤ 4 then ((spec_feEmpty.f k x160000 x160001 x160002).bind fun t161 => ((spec_feSplit.f k x160000 x160001 x160002 t161 ([] : List Int) x4).bind fun bt164 => (if bt164.2 = true then (some (x4, true)) else (spec_LeastParts.l0 k (wrap64 (x4 + 1)) x160000 x160001 x160002)))) else (some (0, false))
def spec_LeastParts.f (k : Nat) (a0_0 : Int) (a0_1 : Int) (l0_2 : List Int) : Option (Int × Bool) := (spec_feFew.f k a0_0 a0_1 l0_2).bind fun t160 => (if t160 = true then (spec_LeastParts.l0 k 1 a0_0 a0_1 l0_2) else (some (0, false)))
set_option maxRecDepth 100000 in
set_option maxHeartbeats 20000000 in
theorem spec_LeastParts.ac (k : Nat) (a0_0 : Int) (a0_1 : Int) (l0_2 : List Int) (r1 : Int) (r2 : Bool) (h : spec_LeastParts.f k a0_0 a0_1 l0_2 = some (r1, r2)) :
  ACalls Try.prog 14 [.agg [.lit (.int .i64 a0_0), .lit (.int .i64 a0_1), .row 1 l0_2.length false (ints .i64 l0_2)]] [] (fun v H' => v = .tup [.lit (.int .i64 r1), .lit (.bool r2)] ∧ H' = []) := by
 refine ACalls.ofP [2, 3] Try.func14 rfl (by exact Nat.le_of_ble_eq_true rfl) rfl (by decide) ?_
 simp only [Try.ntmps14, env0, spec_LeastParts.f] at h ⊢
 refine AWp.seq ?_
 refine AWp.region ?_
 refine L.M M.bx ?_
 refine L.Y Y.asg ?_
 refine L.Y Y.asg ?_
 refine AList.nil ?_
 refine AWp.seq ?_
 refine AWp.seq ?_
 refine AWp.region ?_
 refine L.S (S.ldN Try.underlying29 Y29) ?_
 replace h := Option.bind_eq_some_iff.1 h
 obtain ⟨t160, hc1, h⟩ := h
 refine L.C (C.callE (l := true) [] Try.func30 (spec_feFew.ac _ _ _ _ _ hc1) .nil ?_)
 refine L.Y Y.nt ?_
 refine AList.nil ?_
 refine W.cond (fun hb => ?_) (fun hb => ?_)
 ·
  have hb2 := hb
  try simp only [hS, hE, ne_eq] at hb
  first | rw [if_pos hb2] at h | rw [if_neg (Bool.eq_false_iff.1 hb2)] at h | rw [if_pos hb] at h | rw [if_neg hb] at h | (simp only [hb, hT, reduceIte] at h) | skip
  refine AWp.seq ?_
  refine AWp.region ?_
  refine L.Y Y.asg ?_
  refine L.Y Y.asg ?_
  refine AList.nil ?_
  simp only [Option.some.injEq, Prod.mk.injEq] at h
  obtain ⟨rfl, rfl⟩ := h
  refine AWp.ret ?_
  exact ⟨.inr rfl, [(2, _), (3, _)], _, ⟨rfl, rfl⟩, IsPart.at [] [] base0 .nil (E.c (E.c .nil))⟩
 ·
  have hb2 := hb
  try simp only [hS, hE, ne_eq] at hb
  first | rw [if_pos hb2] at h | rw [if_neg (Bool.eq_false_iff.1 hb2)] at h | rw [if_pos hb] at h | rw [if_neg hb] at h | (simp only [hb, hT, reduceIte] at h) | skip
  refine AWp.skip ?_
  refine AWp.seq ?_
  refine AWp.seq ?_
  refine AWp.region ?_
  refine L.Y Y.asg ?_
  refine AList.nil ?_
  refine AWp.block ?_
  refine AWp.loopI (fun kk e H => kk ≤ k ∧ ∃ (x4 : Int) (x160000 : Int) (x160001 : Int), e = [(1, .ptr 0 0), (4, .lit (.int .i64 x4))] ∧ H = [.bx 29 [.lit (.int .i64 x160000), .lit (.int .i64 x160001), .row 1 l0_2.length false (ints .i64 l0_2)]] ∧ spec_LeastParts.l0 kk x4 x160000 x160001 l0_2 = some (r1, r2)) (k := k)
   ⟨_, _, ⟨Nat.le_refl _, _, _, _, rfl, rfl, h⟩, IsPart.at [] [0] base0 (H.c .nil) (E.c (E.c .nil))⟩ ?_
  clear h
  rintro k3 e H ⟨hk4, x4, x160000, x160001, rfl, rfl, h⟩
  cases k3 with
  | zero => exact absurd h (by simp [spec_LeastParts.l0])
  | succ k3 =>
  simp only [spec_LeastParts.l0] at h
  refine AWp.seq ?_
  refine AWp.seq ?_
  refine AWp.region ?_
  refine L.Y Y.mv ?_
  refine L.Y Y.bin ?_
  refine AList.nil ?_
  refine W.cond (fun hb => ?_) (fun hb => ?_)
  ·
   have hb5 := hb
   try simp only [hS, hE, ne_eq] at hb
   first | rw [if_pos hb5] at h | rw [if_neg (Bool.eq_false_iff.1 hb5)] at h | rw [if_pos hb] at h | rw [if_neg hb] at h | (simp only [hb, hT, reduceIte] at h) | skip
   refine AWp.skip ?_
   refine AWp.seq ?_
   refine AWp.block ?_
   refine AWp.seq ?_
   refine Dt.reg [] [4] (.t 0 (.t 1 (.y 3 (.one 2 (.last 4 (.y 5 (.y 6 (.y 7 (.y 8 (.y 9 .done)))))))))) HM ?_
   refine Dt.T rfl wantN (D.ldN Try.underlying29 Y29) ?_
   refine Dt.T rfl wantN (D.ldN Try.underlying29 Y29) ?_
   refine Dt.Y rfl wantN Y.mv ?_
   refine Dt.O (g' := false) rfl wantN ?_
   replace h := Option.bind_eq_some_iff.1 h
   obtain ⟨t161, hc6, h⟩ := h
   refine Ox.C true [] Try.func15 (spec_feEmpty.ac _ _ _ _ _ hc6) .nil ?_
   refine Dt.L rfl wantN ?_
   replace h := Option.bind_eq_some_iff.1 h
   obtain ⟨⟨t164, t167⟩, hc7, h⟩ := h
   dsimp only at h
   refine C.nil 3 1 ?_
   refine C.callE (l := true) [2] Try.func16 (spec_feSplit.ac _ _ _ _ _ _ _ _ _ hc7) (H.c .nil) ?_
   refine Du.Y rfl wantN Y.mv ?_
   refine Du.Y rfl wantN Y.ex ?_
   refine Du.Y rfl wantN Y.ex ?_
   refine Du.Y rfl wantN Y.asg ?_
   refine Du.Y rfl wantN Y.asg ?_
   refine Du.nil ?_
   refine AWp.seq ?_
   refine W.kp [1, 4, 6, 11] ?_
   refine AWp.region ?_
   refine L.Y Y.mv ?_
   refine AList.nil ?_
   refine W.cond (fun hb => ?_) (fun hb => ?_)
   ·
    have hb8 := hb
    try simp only [hS, hE, ne_eq] at hb
    first | rw [if_pos hb8] at h | rw [if_neg (Bool.eq_false_iff.1 hb8)] at h | rw [if_pos hb] at h | rw [if_neg hb] at h | (simp only [hb, hT, reduceIte] at h) | skip
    refine AWp.seq ?_
    refine AWp.region ?_
    refine L.Y Y.mv ?_
    refine L.Y Y.asg ?_
    refine L.Y Y.asg ?_
    refine AList.nil ?_
    simp only [Option.some.injEq, Prod.mk.injEq] at h
    obtain ⟨rfl, rfl⟩ := h
    refine AWp.ret ?_
    exact ⟨.inr rfl, [(2, _), (3, _)], _, ⟨rfl, rfl⟩, IsPart.at [] [] base0 .nil (E.c (E.c .nil))⟩
   ·
    have hb8 := hb
    try simp only [hS, hE, ne_eq] at hb
    first | rw [if_pos hb8] at h | rw [if_neg (Bool.eq_false_iff.1 hb8)] at h | rw [if_pos hb] at h | rw [if_neg hb] at h | (simp only [hb, hT, reduceIte] at h) | skip
    refine AWp.skip ?_
    refine AWp.region ?_
    refine L.Y Y.mv ?_
    refine L.Y Y.bin ?_
    refine L.Y Y.asg ?_
    refine AList.nil ?_
    exact ⟨k3, by omega, _, _, ⟨by omega, _, _, _, rfl, rfl, h⟩, IsPart.at [] [0] base0 (H.c .nil) (E.c (E.c .nil))⟩
  ·
   have hb5 := hb
   try simp only [hS, hE, ne_eq] at hb
   first | rw [if_pos hb5] at h | rw [if_neg (Bool.eq_false_iff.1 hb5)] at h | rw [if_pos hb] at h | rw [if_neg hb] at h | (simp only [hb, hT, reduceIte] at h) | skip
   refine AWp.exit ?_
   refine AWp.seq ?_
   refine AWp.region ?_
   refine L.Y Y.asg ?_
   refine L.Y Y.asg ?_
   refine AList.nil ?_
   simp only [Option.some.injEq, Prod.mk.injEq] at h
   obtain ⟨rfl, rfl⟩ := h
   refine AWp.ret ?_
   exact ⟨.inr rfl, [(2, _), (3, _)], _, ⟨rfl, rfl⟩, IsPart.at [] [] base0 .nil (E.c (E.c .nil))⟩

/-! ### spec_feCover: function 19 -/
def spec_feCover.l0 : Nat → Int → List Int → Int → Int → Int → Int → List Int → Int → Int → List Int → Option (Int × Int × List Int)
 | 0, _, _, _, _, _, _, _, _, _, _ => none
 | k + 1, x6, x17, x18, x19, x169000, x169001, x169002, x174000, x174001, x174002 => if x19 < x18 then (if 0 ≤ x19 then (if x19 < (x17.length : Int) then (if 0 ≤ (rd x17 x19) then (if (rd x17 x19) < (x169002.length : Int) then (if (rd x17 x19) < (x174002.length : Int) then (spec_feCover.l0 k (Go.bits .or .i64 x6 (rd x169002 (rd x17 x19))) x17 x18 (wrap64 (x19 + 1)) x169000 x169001 x169002 x174000 x174001 (x174002.set ((rd x17 x19) : Int).toNat (Go.bits .or .i64 x6 (rd x169002 (rd x17 x19))))) else (none)) else (none)) else (none)) else (none)) else (none)) else (some (x174000, x174001, x174002))
def spec_feCover.f (k : Nat) (a0_0 : Int) (a0_1 : Int) (l0_2 : List Int) (l1 : List Int) : Option (Int × Int × List Int) := if 0 ≤ a0_0 then (if (a0_0 : Int).toNat ≤ 35184372088832 then (spec_feCover.l0 k 0 l1 (l1.length : Int) 0 a0_0 a0_1 l0_2 a0_0 a0_1 (List.replicate (a0_0 : Int).toNat 0)) else (none)) else (none)
set_option maxRecDepth 100000 in
set_option maxHeartbeats 20000000 in
theorem spec_feCover.ac (k : Nat) (a0_0 : Int) (a0_1 : Int) (l0_2 : List Int) (l1 : List Int) (r1 : Int) (r2 : Int) (r3 : List Int) (h : spec_feCover.f k a0_0 a0_1 l0_2 l1 = some (r1, r2, r3)) :
  ACalls Try.prog 19 [.agg [.lit (.int .i64 a0_0), .lit (.int .i64 a0_1), .row 1 l0_2.length false (ints .i64 l0_2)], .row 1 l1.length false (ints .i64 l1)] [] (fun v H' => v = .agg [.lit (.int .i64 r1), .lit (.int .i64 r2), .own 0 r3.length] ∧ H' = [.sl 3 1 r3.length false (ints .i64 r3)]) := by
 refine ACalls.ofV Try.func19 rfl (by exact Nat.le_of_ble_eq_true rfl) ?_
 simp only [Try.ntmps19, env0, spec_feCover.f] at h ⊢
 repeat (first | (rw [iN] at h; obtain ⟨_, h⟩ := h) | (rw [iP] at h; obtain ⟨_, h⟩ := h) | (simp only [bS] at h))
 refine AWp.seq ?_
 refine AWp.region ?_
 refine L.M M.bx ?_
 refine L.M (M.al Y29) ?_
 refine AList.nil ?_
 refine AWp.seq ?_
 apply AWp.joinX
 ·
  refine Dt.reg [] [9] (.y 0 (.t 1 (.y 2 (.t 3 (.y 4 (.t 5 (.two 6 (.y 7 (.one 8 (.last 9 .done))) 8 (.one 6 (.y 7 (.last 9 .done)))))))))) HM ?_
  refine Dt.Y rfl wantN (Y.fa (off := 0) Try.underlying29 Y3) ?_
  refine Dt.T rfl wantN (D.ld Try.underlying3) ?_
  refine Dt.Y rfl wantN (Y.fa (off := 1) Try.underlying29 Y3) ?_
  refine Dt.T rfl wantN (D.ld Try.underlying3) ?_
  refine Dt.Y rfl wantN (Y.fa (off := 0) Try.underlying29 Y3) ?_
  refine Dt.T rfl wantN (D.ld Try.underlying3) ?_
  refine Dt.B (g1 := false) (g2 := false) rfl rfl wantN wantN ?_ ?_
  ·
   skip
   refine Ox.M (M.mk Try.underlying22 Y3) ?_
   refine Dt.Y rfl wantN (Y.bd Try.underlying29 Y29 P29) ?_
   refine Dt.O (g' := false) rfl wantN ?_
   refine Ox.M (M.al Y29) ?_
   refine Dt.L rfl wantN ?_
   refine Op.S (S.stb Y29) ?_
   refine Du.nil ?_
   exact ⟨rfl, .inl ⟨rfl, rfl⟩⟩
  ·
   skip
   refine Ox.M (M.al Y29) ?_
   refine Dt.O (g' := false) rfl wantN ?_
   refine Ox.M (M.mk Try.underlying22 Y3) ?_
   refine Dt.Y rfl wantN (Y.bd Try.underlying29 Y29 P29) ?_
   refine Dt.L rfl wantN ?_
   refine Op.S (S.stb Y29) ?_
   refine Du.nil ?_
   exact ⟨rfl, .inr (IsPart.at [] [0, 1, 3, 2] base0 (H.c (H.c (H.c (H.c .nil)))) (by repeat' first | exact .nil | refine E.c ?_))⟩
 ·
  skip
  refine AWp.seq ?_
  refine W.kp [0, 1, 2, 4, 5] ?_
  refine AWp.region ?_
  refine L.Y Y.asg ?_
  refine AList.nil ?_
  refine AWp.seq ?_
  refine AWp.seq ?_
  refine AWp.region ?_
  refine L.Y Y.mv ?_
  refine L.Y (Y.ln Try.underlying22) ?_
  refine L.Y Y.mv ?_
  refine AList.nil ?_
  refine AWp.block ?_
  refine AWp.loopI (fun kk e H => kk ≤ k ∧ ∃ (x6 : Int) (x18 : Int) (x19 : Int) (x169000 : Int) (x169001 : Int) (x170000 : Int) (x170001 : Int) (x174000 : Int) (x174001 : Int) (x174002 : List Int), e = [(2, .ptr 0 0), (4, .ptr 1 0), (5, .ptr 2 0), (6, .lit (.int .i64 x6)), (17, .row 1 l1.length false (ints .i64 l1)), (18, .lit (.int .i64 x18)), (19, .lit (.int .i64 x19))] ∧ H = [.bx 29 [.lit (.int .i64 x169000), .lit (.int .i64 x169001), .row 1 l0_2.length false (ints .i64 l0_2)], .bx 29 [.lit (.int .i64 x170000), .lit (.int .i64 x170001), .lit (.slice none 0 0)], .bx 29 [.lit (.int .i64 x174000), .lit (.int .i64 x174001), .own 3 x174002.length], .sl 3 1 x174002.length true (ints .i64 x174002)] ∧ spec_feCover.l0 kk x6 l1 x18 x19 x169000 x169001 l0_2 x174000 x174001 x174002 = some (r1, r2, r3)) (k := k)
   ⟨_, _, ⟨Nat.le_refl _, _, _, _, _, _, _, _, _, _, _, rfl, rfl, h⟩, IsPart.at [] [0, 1, 3, 2] base0 (H.c (H.c (H.c (H.c .nil)))) (E.c (E.c (E.c (E.c (E.c (E.c (E.c .nil)))))))⟩ ?_
  clear h
  rintro k1 e H ⟨hk2, x6, x18, x19, x169000, x169001, x170000, x170001, x174000, x174001, x174002, rfl, rfl, h⟩
  cases k1 with
  | zero => exact absurd h (by simp [spec_feCover.l0])
  | succ k1 =>
  simp only [spec_feCover.l0] at h
  refine AWp.seq ?_
  refine AWp.region ?_
  refine L.Y Y.bin ?_
  refine AList.nil ?_
  refine AWp.seq ?_
  refine W.cond (fun hb => ?_) (fun hb => ?_)
  ·
   have hb3 := hb
   try simp only [hS, hE, ne_eq] at hb
   first | rw [if_pos hb3] at h | rw [if_neg (Bool.eq_false_iff.1 hb3)] at h | rw [if_pos hb] at h | rw [if_neg hb] at h | (simp only [hb, hT, reduceIte] at h) | skip
   repeat (first | (rw [iN] at h; obtain ⟨_, h⟩ := h) | (rw [iP] at h; obtain ⟨_, h⟩ := h) | (simp only [bS] at h))
   refine AWp.skip ?_
   refine AWp.seq ?_
   refine AWp.block ?_
   refine AWp.seq ?_
   refine AWp.region ?_
   refine L.Y (Y.ixr Try.underlying22 Y3) ?_
   refine L.S (S.ld Try.underlying3) ?_
   refine L.Y Y.asg ?_
   refine AList.nil ?_
   refine AWp.seq ?_
   refine AWp.region ?_
   refine L.Y Y.mv ?_
   refine L.Y (Y.fa (off := 2) Try.underlying29 Y22) ?_
   refine L.S (S.ld Try.underlying22) ?_
   refine L.Y Y.mv ?_
   refine L.Y (Y.ixr Try.underlying22 Y3) ?_
   refine L.S (S.ld Try.underlying3) ?_
   refine L.Y Y.bin ?_
   refine L.Y Y.asg ?_
   refine AList.nil ?_
   refine W.kp [2, 4, 5, 6, 8, 17, 18, 19, 20] ?_
   refine AWp.region ?_
   refine L.Y (Y.fa (off := 2) Try.underlying29 Y22) ?_
   refine L.S (S.ld Try.underlying22) ?_
   refine L.Y Y.mv ?_
   refine L.Y Y.mv ?_
   refine L.Y (Y.ixo Try.underlying22 Y3) ?_
   refine L.S (S.sts Y3) ?_
   refine AList.nil ?_
   refine W.kp [2, 4, 5, 6, 8, 17, 18, 19, 20] ?_
   refine AWp.region ?_
   refine L.Y Y.bin ?_
   refine L.Y Y.mv ?_
   refine AList.nil ?_
   exact ⟨k1, by omega, _, _, ⟨by omega, _, _, _, _, _, _, _, _, _, _, rfl, rfl, h⟩, IsPart.at [] [0, 1, 2, 3] base0 (H.c (H.c (H.c (H.c .nil)))) (E.c (E.c (E.c (E.c (E.c (E.c (E.c .nil)))))))⟩
  ·
   have hb3 := hb
   try simp only [hS, hE, ne_eq] at hb
   first | rw [if_pos hb3] at h | rw [if_neg (Bool.eq_false_iff.1 hb3)] at h | rw [if_pos hb] at h | rw [if_neg hb] at h | (simp only [hb, hT, reduceIte] at h) | skip
   refine AWp.exit ?_
   refine AWp.seq ?_
   refine AWp.region ?_
   refine L.S (S.ldN Try.underlying29 Y29) ?_
   refine L.S (S.stb Y29) ?_
   refine AList.nil ?_
   simp only [Option.some.injEq, Prod.mk.injEq] at h
   obtain ⟨rfl, rfl, rfl⟩ := h
   refine AWp.ret ?_
   exact ⟨.inr rfl, _, _, _, Res.cl Try.underlying29 Y29, ⟨rfl, rfl⟩, PartV.at [] [3] base0 (H.c .nil)⟩

/-! ### spec_MeetOfBiorders: function 5 -/
def spec_MeetOfBiorders.l0 : Nat → Int → List Int → List Int → List (S29) → Int → Int → Int → List Int → Option ((List (S29)) × Bool)
 | 0, _, _, _, _, _, _, _, _ => none
 | k + 1, x4, x6, x7, x9, x10, x178000, x178001, x178002 => if x10 < x4 then ((spec_fePart.f k x6 x7 x10).bind fun t187 => ((spec_feOrder.f k x178000 x178001 x178002 t187).bind fun bt190 => ((spec_feCover.f k x178000 x178001 x178002 bt190.1).bind fun bt194 => (if x9.length < 3518437208883 then (spec_MeetOfBiorders.l0 k x4 x6 x7 (x9 ++ [(⟨bt194.1, bt194.2.1, bt194.2.2⟩ : S29)]) (wrap64 (x10 + 1)) x178000 x178001 x178002) else (none))))) else (some (x9, true))
def spec_MeetOfBiorders.f (k : Nat) (a0_0 : Int) (a0_1 : Int) (l0_2 : List Int) : Option ((List (S29)) × Bool) := (spec_LeastParts.f k a0_0 a0_1 l0_2).bind fun bt178 => (if bt178.2 = true then ((spec_feEmpty.f k a0_0 a0_1 l0_2).bind fun t180 => ((spec_feSplit.f k a0_0 a0_1 l0_2 t180 ([] : List Int) bt178.1).bind fun bt183 => (spec_MeetOfBiorders.l0 k bt178.1 t180 bt183.1 ([] : List (S29)) 0 a0_0 a0_1 l0_2))) else (some (([] : List (S29)), false)))
set_option maxRecDepth 100000 in
set_option maxHeartbeats 20000000 in
theorem spec_MeetOfBiorders.ac (k : Nat) (a0_0 : Int) (a0_1 : Int) (l0_2 : List Int) (r1 : List (S29)) (r2 : Bool) (h : spec_MeetOfBiorders.f k a0_0 a0_1 l0_2 = some (r1, r2)) :
  ACalls Try.prog 5 [.agg [.lit (.int .i64 a0_0), .lit (.int .i64 a0_1), .row 1 l0_2.length false (ints .i64 l0_2)]] [] (fun v H' => v = .tup [.own 0 r1.length, .lit (.bool r2)] ∧ H' = [.sl 29 3 r1.length false (Enc.cells r1)]) := by
 refine ACalls.ofP [2, 3] Try.func5 rfl (by exact Nat.le_of_ble_eq_true rfl) rfl (by decide) ?_
 simp only [Try.ntmps5, env0, spec_MeetOfBiorders.f] at h ⊢
 refine AWp.seq ?_
 refine AWp.region ?_
 refine L.M M.bx ?_
 refine L.Y Y.asg ?_
 refine L.Y Y.asg ?_
 refine AList.nil ?_
 refine AWp.seq ?_
 refine AWp.region ?_
 refine L.S (S.ldN Try.underlying29 Y29) ?_
 replace h := Option.bind_eq_some_iff.1 h
 obtain ⟨⟨t178, t179⟩, hc1, h⟩ := h
 dsimp only at h
 refine L.C (C.callE (l := true) [] Try.func14 (spec_LeastParts.ac _ _ _ _ _ _ hc1) .nil ?_)
 refine L.Y Y.mv ?_
 refine L.Y Y.ex ?_
 refine L.Y Y.ex ?_
 refine L.Y Y.asg ?_
 refine L.Y Y.asg ?_
 refine AList.nil ?_
 refine AWp.seq ?_
 refine AWp.seq ?_
 refine W.kp [0, 1, 2, 3, 4, 5] ?_
 refine AWp.region ?_
 refine L.Y Y.mv ?_
 refine L.Y Y.nt ?_
 refine AList.nil ?_
 refine W.cond (fun hb => ?_) (fun hb => ?_)
 ·
  have hb2 := hb
  try simp only [hS, hE, ne_eq] at hb
  first | rw [if_pos hb2] at h | rw [if_neg (Bool.eq_false_iff.1 hb2)] at h | rw [if_pos hb] at h | rw [if_neg hb] at h | (simp only [hb, hT, reduceIte] at h) | skip
  refine AWp.seq ?_
  refine AWp.region ?_
  refine L.Y Y.asg ?_
  refine L.Y Y.asg ?_
  refine AList.nil ?_
  simp only [Option.some.injEq, Prod.mk.injEq] at h
  obtain ⟨rfl, rfl⟩ := h
  refine AWp.ret ?_
  exact ⟨.inr rfl, [(2, _), (3, _)], _, ⟨rfl, rfl⟩, IsPart.at [(29, 3)] [1] base0 (H.c .nil) (E.c (E.c .nil))⟩
 ·
  have hb2 := hb
  try simp only [hS, hE, ne_eq] at hb
  first | rw [if_pos hb2] at h | rw [if_neg (Bool.eq_false_iff.1 hb2)] at h | rw [if_pos hb] at h | rw [if_neg hb] at h | (simp only [hb, hT, reduceIte] at h) | skip
  refine AWp.skip ?_
  refine AWp.seq ?_
  refine AWp.region ?_
  refine L.S (S.ldN Try.underlying29 Y29) ?_
  replace h := Option.bind_eq_some_iff.1 h
  obtain ⟨t180, hc3, h⟩ := h
  refine L.C (C.callE (l := true) [] Try.func15 (spec_feEmpty.ac _ _ _ _ _ hc3) .nil ?_)
  refine L.Y Y.asg ?_
  refine AList.nil ?_
  refine AWp.seq ?_
  refine AWp.region ?_
  refine L.S (S.ldN Try.underlying29 Y29) ?_
  refine L.Y Y.mv ?_
  refine L.Y Y.mv ?_
  replace h := Option.bind_eq_some_iff.1 h
  obtain ⟨⟨t183, t186⟩, hc4, h⟩ := h
  dsimp only at h
  refine L.C ?_
  refine C.nil 3 1 ?_
  refine C.callE (l := true) [2] Try.func16 (spec_feSplit.ac _ _ _ _ _ _ _ _ _ hc4) (H.c .nil) ?_
  refine L.Y Y.mv ?_
  refine L.Y Y.ex ?_
  refine L.Y Y.ex ?_
  refine L.Y Y.asg ?_
  refine L.Y Y.asg ?_
  refine AList.nil ?_
  refine AWp.seq ?_
  refine W.kp [0, 1, 2, 3, 4, 5, 6, 7, 19] ?_
  refine AWp.region ?_
  refine L.Y Y.asg ?_
  refine AList.nil ?_
  refine AWp.seq ?_
  refine AWp.seq ?_
  refine AWp.region ?_
  refine L.Y Y.asg ?_
  refine AList.nil ?_
  refine AWp.block ?_
  refine AWp.loopI (fun kk e H => kk ≤ k ∧ ∃ (x4 : Int) (x6 : List Int) (x7 : List Int) (x9 : List (S29)) (x10 : Int) (x178000 : Int) (x178001 : Int), e = [(1, .ptr 0 0), (2, .lit (.slice none 0 0)), (4, .lit (.int .i64 x4)), (6, .own 1 x6.length), (7, .own 2 x7.length), (9, .own 3 x9.length), (10, .lit (.int .i64 x10))] ∧ H = [.bx 29 [.lit (.int .i64 x178000), .lit (.int .i64 x178001), .row 1 l0_2.length false (ints .i64 l0_2)], .sl 3 1 x6.length false (ints .i64 x6), .sl 3 1 x7.length false (ints .i64 x7), .sl 29 3 x9.length false (Enc.cells x9)] ∧ spec_MeetOfBiorders.l0 kk x4 x6 x7 x9 x10 x178000 x178001 l0_2 = some (r1, r2)) (k := k)
   ⟨_, _, ⟨Nat.le_refl _, _, _, _, _, _, _, _, rfl, rfl, h⟩, IsPart.at [(29, 3)] [0, 1, 3, 4] base0 (H.c (H.c (H.c (H.c .nil)))) (E.c (E.c (E.c (E.c (E.c (E.c (E.c .nil)))))))⟩ ?_
  clear h
  rintro k5 e H ⟨hk6, x4, x6, x7, x9, x10, x178000, x178001, rfl, rfl, h⟩
  cases k5 with
  | zero => exact absurd h (by simp [spec_MeetOfBiorders.l0])
  | succ k5 =>
  simp only [spec_MeetOfBiorders.l0] at h
  refine AWp.seq ?_
  refine AWp.seq ?_
  refine AWp.region ?_
  refine L.Y Y.mv ?_
  refine L.Y Y.mv ?_
  refine L.Y Y.bin ?_
  refine AList.nil ?_
  refine W.cond (fun hb => ?_) (fun hb => ?_)
  ·
   have hb7 := hb
   try simp only [hS, hE, ne_eq] at hb
   first | rw [if_pos hb7] at h | rw [if_neg (Bool.eq_false_iff.1 hb7)] at h | rw [if_pos hb] at h | rw [if_neg hb] at h | (simp only [hb, hT, reduceIte] at h) | skip
   refine AWp.skip ?_
   refine AWp.seq ?_
   refine AWp.block ?_
   refine AWp.seq ?_
   refine Dt.reg [] [] (.t 0 (.y 1 (.y 2 (.y 3 (.one 4 (.one 5 (.y 6 (.y 7 (.y 8 (.y 9 (.y 10 .done))))))))))) HM ?_
   refine Dt.T rfl wantN (D.ldN Try.underlying29 Y29) ?_
   refine Dt.Y rfl wantN Y.mv ?_
   refine Dt.Y rfl wantN Y.mv ?_
   refine Dt.Y rfl wantN Y.mv ?_
   refine Dt.O (g' := false) rfl wantN ?_
   replace h := Option.bind_eq_some_iff.1 h
   obtain ⟨t187, hc8, h⟩ := h
   refine Ox.C true [] Try.func18 (spec_fePart.ac _ _ _ _ _ hc8) .nil ?_
   refine Dt.O (g' := false) rfl wantN ?_
   replace h := Option.bind_eq_some_iff.1 h
   obtain ⟨⟨t190, t193⟩, hc9, h⟩ := h
   dsimp only at h
   refine Ox.C true [] Try.func17 (spec_feOrder.ac _ _ _ _ _ _ _ hc9) .nil ?_
   refine Dt.Y rfl wantN Y.mv ?_
   refine Dt.Y rfl wantN Y.ex ?_
   refine Dt.Y rfl wantN Y.ex ?_
   refine Dt.Y rfl wantN Y.asg ?_
   refine Dt.Y rfl wantN Y.asg ?_
   refine Dt.nil ?_
   refine W.kp [1, 2, 4, 6, 7, 9, 10, 11, 31] ?_
   refine AWp.region ?_
   refine L.Y Y.mv ?_
   refine L.S (S.ldN Try.underlying29 Y29) ?_
   refine L.Y Y.mv ?_
   replace h := Option.bind_eq_some_iff.1 h
   obtain ⟨⟨t194, t195, t196⟩, hc10, h⟩ := h
   dsimp only at h
   repeat (first | (rw [iN] at h; obtain ⟨_, h⟩ := h) | (rw [iP] at h; obtain ⟨_, h⟩ := h) | (simp only [bS] at h))
   refine L.C (C.callE (l := true) [] Try.func19 (spec_feCover.ac _ _ _ _ _ _ _ _ hc10) .nil ?_)
   refine L.fz 6 ?_
   refine L.M (M.bsT ([(⟨_, _, _⟩ : S29)] : List (S29)) Try.underlying26 Y29) ?_
   refine L.S (S.ap (nn' := false) Try.underlying26 Y29) ?_
   refine L.Y Y.asg ?_
   refine AList.nil ?_
   refine W.kp [1, 2, 4, 6, 7, 9, 10, 11, 31] ?_
   refine AWp.region ?_
   refine L.Y Y.mv ?_
   refine L.Y Y.bin ?_
   refine L.Y Y.asg ?_
   refine AList.nil ?_
   exact ⟨k5, by omega, _, _, ⟨by omega, _, _, _, _, _, _, _, rfl, rfl, h⟩, IsPart.at [] [0, 1, 2, 3] base0 (H.c (H.c (H.c (H.c .nil)))) (E.c (E.c (E.c (E.c (E.c (E.c (E.c .nil)))))))⟩
  ·
   have hb7 := hb
   try simp only [hS, hE, ne_eq] at hb
   first | rw [if_pos hb7] at h | rw [if_neg (Bool.eq_false_iff.1 hb7)] at h | rw [if_pos hb] at h | rw [if_neg hb] at h | (simp only [hb, hT, reduceIte] at h) | skip
   refine AWp.exit ?_
   refine AWp.seq ?_
   refine AWp.region ?_
   refine L.Y Y.mv ?_
   refine L.Y Y.asg ?_
   refine L.Y Y.asg ?_
   refine AList.nil ?_
   simp only [Option.some.injEq, Prod.mk.injEq] at h
   obtain ⟨rfl, rfl⟩ := h
   refine AWp.ret ?_
   exact ⟨.inr rfl, [(2, _), (3, _)], _, ⟨rfl, rfl⟩, IsPart.at [] [3] base0 (H.c .nil) (E.c (E.c .nil))⟩

/-! ### laws_toIntS: function 20 -/
def laws_toIntS.l0 : Nat → List Int → List Int → Int → Option (List Int)
 | 0, _, _, _ => none
 | k + 1, x0, x3, x4 => if x4 < (x0.length : Int) then (if 0 ≤ x4 then (if x4 < (x3.length : Int) then (laws_toIntS.l0 k x0 (x3.set (x4 : Int).toNat (rd x0 x4)) (wrap64 (x4 + 1))) else (none)) else (none)) else (some x3)
def laws_toIntS.f (k : Nat) (l0 : List Int) : Option (List Int) := if 0 ≤ (l0.length : Int) then (if ((l0.length : Int) : Int).toNat ≤ 35184372088832 then (laws_toIntS.l0 k l0 (List.replicate ((l0.length : Int) : Int).toNat 0) 0) else (none)) else (none)
set_option maxRecDepth 100000 in
set_option maxHeartbeats 20000000 in
theorem laws_toIntS.ac (k : Nat) (l0 : List Int) (r : List Int) (h : laws_toIntS.f k l0 = some r) :
  ACalls Try.prog 20 [.row 1 l0.length false (ints .i64 l0)] [] (fun v H' => v = .own 0 r.length ∧ H' = [.sl 3 1 r.length false (ints .i64 r)]) := by
 refine ACalls.ofP [2] Try.func20 rfl (by exact Nat.le_of_ble_eq_true rfl) rfl (by decide) ?_
 simp only [Try.ntmps20, env0, laws_toIntS.f] at h ⊢
 repeat (first | (rw [iN] at h; obtain ⟨_, h⟩ := h) | (rw [iP] at h; obtain ⟨_, h⟩ := h) | (simp only [bS] at h))
 refine AWp.seq ?_
 refine AWp.region ?_
 refine L.Y Y.asg ?_
 refine AList.nil ?_
 refine AWp.seq ?_
 refine AWp.region ?_
 refine L.Y Y.mv ?_
 refine L.Y (Y.ln Try.underlying22) ?_
 refine L.M (M.mk Try.underlying22 Y3) ?_
 refine L.Y Y.asg ?_
 refine AList.nil ?_
 refine AWp.seq ?_
 refine AWp.seq ?_
 refine AWp.region ?_
 refine L.Y Y.asg ?_
 refine AList.nil ?_
 refine AWp.block ?_
 refine AWp.loopI (fun kk e H => kk ≤ k ∧ ∃ (x3 : List Int) (x4 : Int), e = [(0, .row 1 l0.length false (ints .i64 l0)), (2, .lit (.slice none 0 0)), (3, .own 0 x3.length), (4, .lit (.int .i64 x4))] ∧ H = [.sl 3 1 x3.length true (ints .i64 x3)] ∧ laws_toIntS.l0 kk l0 x3 x4 = some r) (k := k)
  ⟨_, _, ⟨Nat.le_refl _, _, _, rfl, rfl, h⟩, IsPart.at [] [0] base0 (H.c .nil) (E.c (E.c (E.c (E.c .nil))))⟩ ?_
 clear h
 rintro k1 e H ⟨hk2, x3, x4, rfl, rfl, h⟩
 cases k1 with
 | zero => exact absurd h (by simp [laws_toIntS.l0])
 | succ k1 =>
 simp only [laws_toIntS.l0] at h
 refine AWp.seq ?_
 refine AWp.seq ?_
 refine AWp.region ?_
 refine L.Y Y.mv ?_
 refine L.Y Y.mv ?_
 refine L.Y (Y.ln Try.underlying22) ?_
 refine L.Y Y.bin ?_
 refine AList.nil ?_
 refine W.cond (fun hb => ?_) (fun hb => ?_)
 ·
  have hb3 := hb
  try simp only [hS, hE, ne_eq] at hb
  first | rw [if_pos hb3] at h | rw [if_neg (Bool.eq_false_iff.1 hb3)] at h | rw [if_pos hb] at h | rw [if_neg hb] at h | (simp only [hb, hT, reduceIte] at h) | skip
  repeat (first | (rw [iN] at h; obtain ⟨_, h⟩ := h) | (rw [iP] at h; obtain ⟨_, h⟩ := h) | (simp only [bS] at h))
  refine AWp.skip ?_
  refine AWp.seq ?_
  refine AWp.block ?_
  refine AWp.region ?_
  refine L.Y Y.mv ?_
  refine L.Y Y.mv ?_
  refine L.Y Y.mv ?_
  refine L.Y Y.mv ?_
  refine L.Y (Y.ixr Try.underlying22 Y3) ?_
  refine L.S (S.ld Try.underlying3) ?_
  refine L.Y (Y.ixo Try.underlying22 Y3) ?_
  refine L.S (S.sts Y3) ?_
  refine AList.nil ?_
  refine W.kp [0, 2, 3, 4, 11] ?_
  refine AWp.region ?_
  refine L.Y Y.mv ?_
  refine L.Y Y.bin ?_
  refine L.Y Y.asg ?_
  refine AList.nil ?_
  exact ⟨k1, by omega, _, _, ⟨by omega, _, _, rfl, rfl, h⟩, IsPart.at [] [0] base0 (H.c .nil) (E.c (E.c (E.c (E.c .nil))))⟩
 ·
  have hb3 := hb
  try simp only [hS, hE, ne_eq] at hb
  first | rw [if_pos hb3] at h | rw [if_neg (Bool.eq_false_iff.1 hb3)] at h | rw [if_pos hb] at h | rw [if_neg hb] at h | (simp only [hb, hT, reduceIte] at h) | skip
  refine AWp.exit ?_
  refine AWp.seq ?_
  refine AWp.region ?_
  refine L.Y Y.mv ?_
  refine L.Y Y.asg ?_
  refine AList.nil ?_
  obtain rfl := Option.some.inj h
  refine AWp.ret ?_
  exact ⟨.inr rfl, [(2, _)], _, ⟨rfl, rfl⟩, IsPart.at [] [0] base0 (H.c .nil) (E.c .nil)⟩

/-! ### laws_toTable: function 6 -/
def laws_toTable.f (k : Nat) (a0_0 : Int) (a0_1 : Int) (l0_2 : List Int) : Option (Int × Int × List Int) := (laws_toIntS.f k l0_2).bind fun t210 => (some (a0_0, a0_1, t210))
set_option maxRecDepth 100000 in
set_option maxHeartbeats 20000000 in
theorem laws_toTable.ac (k : Nat) (a0_0 : Int) (a0_1 : Int) (l0_2 : List Int) (r1 : Int) (r2 : Int) (r3 : List Int) (h : laws_toTable.f k a0_0 a0_1 l0_2 = some (r1, r2, r3)) :
  ACalls Try.prog 6 [.agg [.lit (.int .i64 a0_0), .lit (.int .i64 a0_1), .row 1 l0_2.length false (ints .i64 l0_2)]] [] (fun v H' => v = .agg [.lit (.int .i64 r1), .lit (.int .i64 r2), .own 0 r3.length] ∧ H' = [.sl 3 1 r3.length false (ints .i64 r3)]) := by
 refine ACalls.ofV Try.func6 rfl (by exact Nat.le_of_ble_eq_true rfl) ?_
 simp only [Try.ntmps6, env0, laws_toTable.f] at h ⊢
 refine AWp.seq ?_
 refine AWp.region ?_
 refine L.M M.bx ?_
 refine L.M (M.al Y29) ?_
 refine AList.nil ?_
 refine AWp.seq ?_
 refine AWp.region ?_
 refine L.M (M.al Y29) ?_
 refine AList.nil ?_
 refine AWp.seq ?_
 refine AWp.region ?_
 refine L.Y (Y.fa (off := 0) Try.underlying24 Y3) ?_
 refine L.S (S.ld Try.underlying3) ?_
 refine L.Y (Y.fa (off := 0) Try.underlying29 Y3) ?_
 refine L.S (S.stb Y3) ?_
 refine AList.nil ?_
 refine AWp.seq ?_
 refine AWp.region ?_
 refine L.Y (Y.fa (off := 1) Try.underlying24 Y3) ?_
 refine L.S (S.ld Try.underlying3) ?_
 refine L.Y (Y.fa (off := 1) Try.underlying29 Y3) ?_
 refine L.S (S.stb Y3) ?_
 refine AList.nil ?_
 refine AWp.seq ?_
 refine W.kp [0, 1, 2, 3] ?_
 refine AWp.region ?_
 refine L.Y (Y.fa (off := 2) Try.underlying24 Y22) ?_
 refine L.S (S.ld Try.underlying22) ?_
 replace h := Option.bind_eq_some_iff.1 h
 obtain ⟨t210, hc1, h⟩ := h
 refine L.C (C.callE (l := true) [] Try.func20 (laws_toIntS.ac _ _ _ hc1) .nil ?_)
 refine L.Y (Y.fa (off := 2) Try.underlying29 Y22) ?_
 refine L.S (S.stb Y22) ?_
 refine AList.nil ?_
 refine AWp.seq ?_
 refine W.kp [0, 1, 2, 3] ?_
 refine AWp.region ?_
 refine L.S (S.ldN Try.underlying29 Y29) ?_
 refine L.S (S.stb Y29) ?_
 refine AList.nil ?_
 simp only [Option.some.injEq, Prod.mk.injEq] at h
 obtain ⟨rfl, rfl, rfl⟩ := h
 refine AWp.ret ?_
 exact ⟨.inr rfl, _, _, _, Res.cl Try.underlying29 Y29, ⟨rfl, rfl⟩, PartV.at [] [3] base0 (H.c .nil)⟩

/-! ### impl_Table_marked: function 38 -/
def impl_Table_marked.f (a0_0 : Int) (a0_1 : Int) (l0_2 : List Int) (a1 : Int) (a2 : Int) : Option (Bool) := if 0 ≤ a1 then (if a1 < (l0_2.length : Int) then (if 0 ≤ a2 then (some ((Go.bits .and .i64 (shr .i64 (rd l0_2 a1) a2) 1) == 1)) else (none)) else (none)) else (none)
set_option maxRecDepth 100000 in
set_option maxHeartbeats 20000000 in
theorem impl_Table_marked.ac (a0_0 : Int) (a0_1 : Int) (l0_2 : List Int) (a1 : Int) (a2 : Int) (r : Bool) (h : impl_Table_marked.f a0_0 a0_1 l0_2 a1 a2 = some r) :
  ACalls Try.prog 38 [.agg [.lit (.int .i64 a0_0), .lit (.int .i64 a0_1), .row 1 l0_2.length false (ints .i64 l0_2)], .lit (.int .i64 a1), .lit (.int .i64 a2)] [] (fun v H' => v = .lit (.bool r) ∧ H' = []) := by
 refine ACalls.ofP [6] Try.func38 rfl (by exact Nat.le_of_ble_eq_true rfl) rfl (by decide) ?_
 simp only [Try.ntmps38, env0, impl_Table_marked.f] at h ⊢
 repeat (first | (rw [iN] at h; obtain ⟨_, h⟩ := h) | (rw [iP] at h; obtain ⟨_, h⟩ := h) | (simp only [bS] at h))
 refine AWp.seq ?_
 refine AWp.region ?_
 refine L.M M.bx ?_
 refine L.Y Y.asg ?_
 refine AList.nil ?_
 refine AWp.seq ?_
 refine AWp.region ?_
 refine L.Y (Y.fa (off := 2) Try.underlying29 Y22) ?_
 refine L.S (S.ld Try.underlying22) ?_
 refine L.Y Y.mv ?_
 refine L.Y (Y.ixr Try.underlying22 Y3) ?_
 refine L.S (S.ld Try.underlying3) ?_
 refine L.Y Y.mv ?_
 refine L.Y Y.bin ?_
 refine L.Y Y.bin ?_
 refine L.Y Y.bin ?_
 refine L.Y Y.asg ?_
 refine AList.nil ?_
 obtain rfl := Option.some.inj h
 refine AWp.ret ?_
 exact ⟨.inr rfl, [(6, _)], _, ⟨rfl, rfl⟩, IsPart.at [] [] base0 .nil (E.c .nil)⟩

end Go.Proofs.Ytboaffpfphkneaa.PFnExactMeetOfBiorders
