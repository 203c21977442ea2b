-- Written by a program of this session's (wip/myprint2): the functions by the kit's print, the walks by awgen.py. Lean checks it.
import Derived.Test.YtakabmokpknknaaPFnBiordersHaveScalesx0
import Derived.Test.YtakabmokpknknaaPFnBiordersHaveScalesx3
import Derived.Test.YtakabmokpknknaaPFnBiordersHaveScalesx6
import Derived.Test.YtakabmokpknknaaPFnBiordersHaveScalesx9
namespace Go.Proofs.Ytakabmokpknknaa.PFnBiordersHaveScales
open Go.RowKit Go.Proofs.YtakabmokpknknaaW.PrintWords Go.Proofs.YtakabmokpknknaaW.PrintLast Go.Proofs.YtakabmokpknknaaW.PrintMore Go.Proofs.YtakabmokpknknaaM Go.Proofs.YtakabmokpknknaaA
attribute [local go_sem] max2_int min2_int max_two min_two max_three min_three max_four min_four   -- for this text's walks alone
set_option linter.unusedVariables false
set_option linter.unusedSimpArgs false

/-! ### spec_DrawTableOfScales: function 28 -/
mutual
def spec_DrawTableOfScales.l0 : Nat → List Int → Int → List Int → Int → Int → Option (List Int × List Int)
 | 0, _, _, _, _, _ => none
 | k + 1, x5, x7, x381000, x381001, x381002 => if x7 > 0 then ((spec_l1Cur_pick.f x381000 x381001 x381002 8).bind fun bt387 => ((spec_l1Cur_among.f x381000 bt387.2.1 bt387.2.2 (([0, 1, 2, 3, 99, bt387.1] : List Int))).bind fun bt393 => (if x5.length < 17592186044416 then (spec_DrawTableOfScales.l0 k (x5 ++ [bt393.1]) (wrap64 (x7 - 1)) x381000 bt393.2.1 bt393.2.2) else (none)))) else ((spec_l1Cur_among.f x381000 x381001 x381002 (([0, 1, 2, 3, 4, 6, 7] : List Int))).bind fun bt402 => (spec_DrawTableOfScales.l1 k x5 ([] : List Int) bt402.1 x381000 bt402.2.1 bt402.2.2))
def spec_DrawTableOfScales.l1 : Nat → List Int → List Int → Int → List Int → Int → Int → Option (List Int × List Int)
 | 0, _, _, _, _, _, _ => none
 | k + 1, x5, x6, x8, x381000, x381001, x381002 => if x8 > 0 then ((spec_l1Cur_pick.f x381000 x381001 x381002 8).bind fun bt405 => ((spec_l1Cur_among.f x381000 bt405.2.1 bt405.2.2 (([0, 1, 2, 3, 99, bt405.1] : List Int))).bind fun bt411 => (if x6.length < 17592186044416 then (spec_DrawTableOfScales.l1 k x5 (x6 ++ [bt411.1]) (wrap64 (x8 - 1)) x381000 bt411.2.1 bt411.2.2) else (none)))) else (if (x5.length : Int) > 0 then ((spec_l1Cur_one.f x381000 x381001 x381002 15).bind fun bt417 => (if bt417.1 = true then ((spec_l1Cur_among.f x381000 bt417.2.1 bt417.2.2 (([(-1), 100] : List Int))).bind fun bt423 => (if 0 < (x5.length : Int) then (some ((x5.set (0 : Int).toNat bt423.1), x6)) else (none))) else (some (x5, x6)))) else (some (x5, x6)))
end
def spec_DrawTableOfScales.f (k : Nat) (l0 : List Int) : Option (List Int × List Int) := (spec_l1Cur_among.f l0 0 0 (([0, 1, 2, 3, 4, 6, 7] : List Int))).bind fun bt384 => (spec_DrawTableOfScales.l0 k ([] : List Int) bt384.1 l0 bt384.2.1 bt384.2.2)
set_option maxRecDepth 100000 in
set_option maxHeartbeats 20000000 in
theorem spec_DrawTableOfScales.ac (k : Nat) (l0 : List Int) (r1 : List Int) (r2 : List Int) (h : spec_DrawTableOfScales.f k l0 = some (r1, r2)) :
  ACalls Try.prog 28 [.row 1 l0.length false (ints .u8 l0)] [] (fun v H' => v = .tup [.own 0 r1.length, .own 1 r2.length] ∧ H' = [.sl 3 1 r1.length false (ints .i64 r1), .sl 3 1 r2.length false (ints .i64 r2)]) := by
 refine ACalls.ofP [2, 3] Try.func28 rfl (by exact Nat.le_of_ble_eq_true rfl) rfl (by decide) ?_
 simp only [Try.ntmps28, env0, spec_DrawTableOfScales.f] at h ⊢
 repeat (first | (rw [iN] at h; obtain ⟨_, h⟩ := h) | (rw [iP] at h; obtain ⟨_, h⟩ := h) | (simp only [bS] at h))
 refine AWp.seq ?_
 refine AWp.region ?_
 refine L.Y Y.asg ?_
 refine L.Y Y.asg ?_
 refine AList.nil ?_
 refine AWp.seq ?_
 refine AWp.region ?_
 refine L.Y Y.mv ?_
 refine L.Y (Y.bd Try.underlying65 Y65 P65) ?_
 refine L.M M.bx ?_
 refine L.Y Y.asg ?_
 refine AList.nil ?_
 refine AWp.seq ?_
 refine AWp.region ?_
 refine L.Y Y.asg ?_
 refine L.Y Y.asg ?_
 refine AList.nil ?_
 refine AWp.seq ?_
 refine AWp.seq ?_
 refine AWp.region ?_
 refine L.Y Y.mv ?_
 refine L.M (M.bs Try.underlying22 Y3) ?_
 replace h := Option.bind_eq_some_iff.1 h
 obtain ⟨⟨t384, t385, t386⟩, hc1, h⟩ := h
 dsimp only at h
 refine L.C ?_
 refine C.frz 1 ?_
 refine C.callE (l := false) [0] Try.func52 (spec_l1Cur_among.ac _ _ _ _ _ _ _ hc1) (H.c .nil) ?_
 refine L.Y Y.asg ?_
 refine AList.nil ?_
 refine AWp.block ?_
 refine AWp.loopI (fun kk e H => kk ≤ k ∧ ∃ (x5 : List Int) (x7 : Int) (x381001 : Int) (x381002 : Int), e = [(2, .lit (.slice none 0 0)), (3, .lit (.slice none 0 0)), (4, .ptr 0 0), (5, .own 1 x5.length), (6, .lit (.slice none 0 0)), (7, .lit (.int .i64 x7))] ∧ H = [.bx 65 [.row 1 l0.length false (ints .u8 l0), .lit (.int .i64 x381001), .lit (.int .u64 x381002)], .sl 3 1 x5.length false (ints .i64 x5)] ∧ spec_DrawTableOfScales.l0 kk x5 x7 l0 x381001 x381002 = some (r1, r2)) (k := k)
  ⟨_, _, ⟨Nat.le_refl _, _, _, _, _, rfl, rfl, h⟩, IsPart.at [(3, 1)] [0, 2] base0 (H.c (H.c .nil)) (E.c (E.c (E.c (E.c (E.c (E.c .nil))))))⟩ ?_
 clear h
 rintro k2 e H ⟨hk3, x5, x7, x381001, x381002, rfl, rfl, h⟩
 cases k2 with
 | zero => exact absurd h (by simp [spec_DrawTableOfScales.l0])
 | succ k2 =>
 simp only [spec_DrawTableOfScales.l0] at h
 refine AWp.seq ?_
 refine AWp.seq ?_
 refine AWp.region ?_
 refine L.Y Y.mv ?_
 refine L.Y Y.bin ?_
 refine AList.nil ?_
 refine W.cond (fun hb => ?_) (fun hb => ?_)
 ·
  have hb4 := hb
  try simp only [hS, hE, ne_eq] at hb
  first | rw [if_pos hb4] at h | rw [if_neg (Bool.eq_false_iff.1 hb4)] at h | rw [if_pos hb] at h | rw [if_neg hb] at h | (simp only [hb, hT, reduceIte] at h) | skip
  refine AWp.skip ?_
  refine AWp.seq ?_
  refine AWp.block ?_
  refine AWp.region ?_
  refine L.Y Y.mv ?_
  refine L.Y Y.mv ?_
  refine L.Y Y.mv ?_
  replace h := Option.bind_eq_some_iff.1 h
  obtain ⟨⟨t387, t388, t389⟩, hc5, h⟩ := h
  dsimp only at h
  repeat (first | (rw [iN] at h; obtain ⟨_, h⟩ := h) | (rw [iP] at h; obtain ⟨_, h⟩ := h) | (simp only [bS] at h))
  refine L.C (C.callE (l := false) [0] Try.func53 (spec_l1Cur_pick.ac _ _ _ _ _ _ _ hc5) (H.c .nil) ?_)
  refine L.M (M.bs Try.underlying22 Y3) ?_
  replace h := Option.bind_eq_some_iff.1 h
  obtain ⟨⟨t393, t394, t395⟩, hc6, h⟩ := h
  dsimp only at h
  repeat (first | (rw [iN] at h; obtain ⟨_, h⟩ := h) | (rw [iP] at h; obtain ⟨_, h⟩ := h) | (simp only [bS] at h))
  refine L.C ?_
  refine C.frz 2 ?_
  refine C.callE (l := false) [0] Try.func52 (spec_l1Cur_among.ac _ _ _ _ _ _ _ hc6) (H.c .nil) ?_
  refine L.M (M.bs Try.underlying22 Y3) ?_
  refine L.S (S.ap (nn' := false) Try.underlying22 Y3) ?_
  refine L.Y Y.asg ?_
  refine AList.nil ?_
  refine W.kp [2, 3, 4, 5, 6, 7, 16] ?_
  refine AWp.region ?_
  refine L.Y Y.mv ?_
  refine L.Y Y.bin ?_
  refine L.Y Y.asg ?_
  refine AList.nil ?_
  exact ⟨k2, by omega, _, _, ⟨by omega, _, _, _, _, rfl, rfl, h⟩, IsPart.at [] [0, 1] base0 (H.c (H.c .nil)) (E.c (E.c (E.c (E.c (E.c (E.c .nil))))))⟩
 ·
  have hb4 := hb
  try simp only [hS, hE, ne_eq] at hb
  first | rw [if_pos hb4] at h | rw [if_neg (Bool.eq_false_iff.1 hb4)] at h | rw [if_pos hb] at h | rw [if_neg hb] at h | (simp only [hb, hT, reduceIte] at h) | skip
  repeat (first | (rw [iN] at h; obtain ⟨_, h⟩ := h) | (rw [iP] at h; obtain ⟨_, h⟩ := h) | (simp only [bS] at h))
  refine AWp.exit ?_
  refine AWp.seq ?_
  refine AWp.seq ?_
  refine AWp.region ?_
  refine L.Y Y.mv ?_
  refine L.M (M.bs Try.underlying22 Y3) ?_
  replace h := Option.bind_eq_some_iff.1 h
  obtain ⟨⟨t402, t403, t404⟩, hc7, h⟩ := h
  dsimp only at h
  refine L.C ?_
  refine C.frz 2 ?_
  refine C.callE (l := false) [0] Try.func52 (spec_l1Cur_among.ac _ _ _ _ _ _ _ hc7) (H.c .nil) ?_
  refine L.Y Y.asg ?_
  refine AList.nil ?_
  refine AWp.block ?_
  refine AWp.loopI (fun kk e H => kk ≤ k2 ∧ ∃ (x5 : List Int) (x6 : List Int) (x8 : Int) (x381001 : Int) (x381002 : Int), e = [(2, .lit (.slice none 0 0)), (3, .lit (.slice none 0 0)), (4, .ptr 0 0), (5, .own 1 x5.length), (6, .own 2 x6.length), (8, .lit (.int .i64 x8))] ∧ H = [.bx 65 [.row 1 l0.length false (ints .u8 l0), .lit (.int .i64 x381001), .lit (.int .u64 x381002)], .sl 3 1 x5.length false (ints .i64 x5), .sl 3 1 x6.length false (ints .i64 x6)] ∧ spec_DrawTableOfScales.l1 kk x5 x6 x8 l0 x381001 x381002 = some (r1, r2)) (k := k2)
   ⟨_, _, ⟨Nat.le_refl _, _, _, _, _, _, rfl, rfl, h⟩, IsPart.at [(3, 1)] [0, 1, 3] base0 (H.c (H.c (H.c .nil))) (E.c (E.c (E.c (E.c (E.c (E.c .nil))))))⟩ ?_
  clear h
  rintro k8 e H ⟨hk9, x5, x6, x8, x381001, x381002, rfl, rfl, h⟩
  cases k8 with
  | zero => exact absurd h (by simp [spec_DrawTableOfScales.l1])
  | succ k8 =>
  simp only [spec_DrawTableOfScales.l1] at h
  refine AWp.seq ?_
  refine AWp.seq ?_
  refine AWp.region ?_
  refine L.Y Y.mv ?_
  refine L.Y Y.bin ?_
  refine AList.nil ?_
  refine W.cond (fun hb => ?_) (fun hb => ?_)
  ·
   have hb10 := hb
   try simp only [hS, hE, ne_eq] at hb
   first | rw [if_pos hb10] at h | rw [if_neg (Bool.eq_false_iff.1 hb10)] at h | rw [if_pos hb] at h | rw [if_neg hb] at h | (simp only [hb, hT, reduceIte] at h) | skip
   refine AWp.skip ?_
   refine AWp.seq ?_
   refine AWp.block ?_
   refine AWp.region ?_
   refine L.Y Y.mv ?_
   refine L.Y Y.mv ?_
   refine L.Y Y.mv ?_
   replace h := Option.bind_eq_some_iff.1 h
   obtain ⟨⟨t405, t406, t407⟩, hc11, h⟩ := h
   dsimp only at h
   repeat (first | (rw [iN] at h; obtain ⟨_, h⟩ := h) | (rw [iP] at h; obtain ⟨_, h⟩ := h) | (simp only [bS] at h))
   refine L.C (C.callE (l := false) [0] Try.func53 (spec_l1Cur_pick.ac _ _ _ _ _ _ _ hc11) (H.c .nil) ?_)
   refine L.M (M.bs Try.underlying22 Y3) ?_
   replace h := Option.bind_eq_some_iff.1 h
   obtain ⟨⟨t411, t412, t413⟩, hc12, h⟩ := h
   dsimp only at h
   repeat (first | (rw [iN] at h; obtain ⟨_, h⟩ := h) | (rw [iP] at h; obtain ⟨_, h⟩ := h) | (simp only [bS] at h))
   refine L.C ?_
   refine C.frz 3 ?_
   refine C.callE (l := false) [0] Try.func52 (spec_l1Cur_among.ac _ _ _ _ _ _ _ hc12) (H.c .nil) ?_
   refine L.M (M.bs Try.underlying22 Y3) ?_
   refine L.S (S.ap (nn' := false) Try.underlying22 Y3) ?_
   refine L.Y Y.asg ?_
   refine AList.nil ?_
   refine W.kp [2, 3, 4, 5, 6, 8, 31] ?_
   refine AWp.region ?_
   refine L.Y Y.mv ?_
   refine L.Y Y.bin ?_
   refine L.Y Y.asg ?_
   refine AList.nil ?_
   exact ⟨k8, by omega, _, _, ⟨by omega, _, _, _, _, _, rfl, rfl, h⟩, IsPart.at [] [0, 1, 2] base0 (H.c (H.c (H.c .nil))) (E.c (E.c (E.c (E.c (E.c (E.c .nil))))))⟩
  ·
   have hb10 := hb
   try simp only [hS, hE, ne_eq] at hb
   first | rw [if_pos hb10] at h | rw [if_neg (Bool.eq_false_iff.1 hb10)] at h | rw [if_pos hb] at h | rw [if_neg hb] at h | (simp only [hb, hT, reduceIte] at h) | skip
   refine AWp.exit ?_
   refine AWp.seq ?_
   refine AWp.seq ?_
   refine AWp.region ?_
   refine L.Y Y.mv ?_
   refine L.Y (Y.ln Try.underlying22) ?_
   refine L.Y Y.bin ?_
   refine L.Y Y.mv ?_
   refine L.Gc (fun hb => ?_) (fun hb => ?_)
   ·
    have hb13 := hb
    try simp only [hS, hE, ne_eq] at hb
    first | rw [if_pos hb13] at h | rw [if_neg (Bool.eq_false_iff.1 hb13)] at h | rw [if_pos hb] at h | rw [if_neg hb] at h | (simp only [hb, hT, reduceIte] at h) | skip
    refine L.Gy hb13 Y.mv ?_
    replace h := Option.bind_eq_some_iff.1 h
    obtain ⟨⟨t417, t418, t419⟩, hc14, h⟩ := h
    dsimp only at h
    refine L.GC hb13 (C.callE (l := false) [0] Try.func54 (spec_l1Cur_one.ac _ _ _ _ _ _ _ hc14) (H.c .nil) ?_)
    refine L.Y (Y.pk (c := true) hb13) ?_
    refine AList.nil ?_
    refine W.cond (fun hb => ?_) (fun hb => ?_)
    ·
     have hb15 := hb
     try simp only [hS, hE, ne_eq] at hb
     first | rw [if_pos hb15] at h | rw [if_neg (Bool.eq_false_iff.1 hb15)] at h | rw [if_pos hb] at h | rw [if_neg hb] at h | (simp only [hb, hT, reduceIte] at h) | skip
     repeat (first | (rw [iN] at h; obtain ⟨_, h⟩ := h) | (rw [iP] at h; obtain ⟨_, h⟩ := h) | (simp only [bS] at h))
     refine W.kp [2, 3, 4, 5, 6, 8, 31, 48] ?_
     refine AWp.region ?_
     refine L.Y Y.mv ?_
     refine L.Y Y.mv ?_
     refine L.M (M.bs Try.underlying22 Y3) ?_
     replace h := Option.bind_eq_some_iff.1 h
     obtain ⟨⟨t423, t424, t425⟩, hc16, h⟩ := h
     dsimp only at h
     repeat (first | (rw [iN] at h; obtain ⟨_, h⟩ := h) | (rw [iP] at h; obtain ⟨_, h⟩ := h) | (simp only [bS] at h))
     refine L.C ?_
     refine C.frz 3 ?_
     refine C.callE (l := false) [0] Try.func52 (spec_l1Cur_among.ac _ _ _ _ _ _ _ hc16) (H.c .nil) ?_
     refine L.Y (Y.ixo Try.underlying22 Y3) ?_
     refine L.S (S.sts Y3) ?_
     refine AList.nil ?_
     refine AWp.seq ?_
     refine W.kp [2, 3, 4, 5, 6, 8, 31, 48] ?_
     refine AWp.region ?_
     refine L.Y Y.mv ?_
     refine L.Y Y.mv ?_
     refine L.Y Y.asg ?_
     refine L.Y Y.asg ?_
     refine AList.nil ?_
     simp only [Option.some.injEq, Prod.mk.injEq] at h
     obtain ⟨rfl, rfl⟩ := h
     refine AWp.ret ?_
     exact ⟨.inr rfl, [(2, _), (3, _)], _, ⟨rfl, rfl⟩, IsPart.at [] [1, 2] base0 (H.c (H.c .nil)) (E.c (E.c .nil))⟩
    ·
     have hb15 := hb
     try simp only [hS, hE, ne_eq] at hb
     first | rw [if_pos hb15] at h | rw [if_neg (Bool.eq_false_iff.1 hb15)] at h | rw [if_pos hb] at h | rw [if_neg hb] at h | (simp only [hb, hT, reduceIte] at h) | skip
     refine AWp.skip ?_
     refine AWp.seq ?_
     refine W.kp [2, 3, 4, 5, 6, 8, 31, 48] ?_
     refine AWp.region ?_
     refine L.Y Y.mv ?_
     refine L.Y Y.mv ?_
     refine L.Y Y.asg ?_
     refine L.Y Y.asg ?_
     refine AList.nil ?_
     simp only [Option.some.injEq, Prod.mk.injEq] at h
     obtain ⟨rfl, rfl⟩ := h
     refine AWp.ret ?_
     exact ⟨.inr rfl, [(2, _), (3, _)], _, ⟨rfl, rfl⟩, IsPart.at [] [1, 2] base0 (H.c (H.c .nil)) (E.c (E.c .nil))⟩
   ·
    have hb13 := hb
    try simp only [hS, hE, ne_eq] at hb
    first | rw [if_pos hb13] at h | rw [if_neg (Bool.eq_false_iff.1 hb13)] at h | rw [if_pos hb] at h | rw [if_neg hb] at h | (simp only [hb, hT, reduceIte] at h) | skip
    refine L.Gn hb13 ?_
    refine L.Gn hb13 ?_
    refine L.Y (Y.pk (c := false) hb13) ?_
    refine AList.nil ?_
    refine W.cond (fun hb => ?_) (fun hb => ?_)
    ·
     first | exact Bool.false_ne_true ((Eq.symm (by assumption)).trans hb) | exact Bool.false_ne_true (hb.symm.trans (by assumption)) | exact DD hb
    have hb17 := hb
    refine AWp.skip ?_
    refine AWp.seq ?_
    refine W.kp [2, 3, 4, 5, 6, 8, 31, 48] ?_
    refine AWp.region ?_
    refine L.Y Y.mv ?_
    refine L.Y Y.mv ?_
    refine L.Y Y.asg ?_
    refine L.Y Y.asg ?_
    refine AList.nil ?_
    simp only [Option.some.injEq, Prod.mk.injEq] at h
    obtain ⟨rfl, rfl⟩ := h
    refine AWp.ret ?_
    exact ⟨.inr rfl, [(2, _), (3, _)], _, ⟨rfl, rfl⟩, IsPart.at [] [1, 2] base0 (H.c (H.c .nil)) (E.c (E.c .nil))⟩

/-! ### impl_MirrorTable_1: function 57 -/
def impl_MirrorTable_1.f (a0 : Int) (a1 : Int) (a2_0 : Int) (a2_1 : Int) (l2_2 : List Int) : Option (Bool) := (impl_Table_marked.f a2_0 a2_1 l2_2 a1 a0).bind fun t427 => (some t427)
set_option maxRecDepth 100000 in
set_option maxHeartbeats 20000000 in
theorem impl_MirrorTable_1.ac (a0 : Int) (a1 : Int) (a2_0 : Int) (a2_1 : Int) (l2_2 : List Int) (r : Bool) (h : impl_MirrorTable_1.f a0 a1 a2_0 a2_1 l2_2 = some r) :
  ACalls Try.prog 57 [.lit (.int .i64 a0), .lit (.int .i64 a1), .rptr [.lit (.int .i64 a2_0), .lit (.int .i64 a2_1), .row 1 l2_2.length false (ints .i64 l2_2)]] [] (fun v H' => v = .lit (.bool r) ∧ H' = []) := by
 refine ACalls.ofP [5] Try.func57 rfl (by exact Nat.le_of_ble_eq_true rfl) rfl (by decide) ?_
 simp only [Try.ntmps57, env0, impl_MirrorTable_1.f] at h ⊢
 refine AWp.seq ?_
 refine AWp.region ?_
 refine L.Y Y.asg ?_
 refine AList.nil ?_
 refine AWp.seq ?_
 refine AWp.region ?_
 refine L.S (S.ldN Try.underlying26 Y26) ?_
 refine L.Y Y.mv ?_
 refine L.Y Y.mv ?_
 replace h := Option.bind_eq_some_iff.1 h
 obtain ⟨t427, hc1, h⟩ := h
 refine L.C (C.callE (l := true) [] Try.func38 (impl_Table_marked.ac _ _ _ _ _ _ hc1) .nil ?_)
 refine L.Y Y.asg ?_
 refine AList.nil ?_
 obtain rfl := Option.some.inj h
 refine AWp.ret ?_
 exact ⟨.inr rfl, [(5, _)], _, ⟨rfl, rfl⟩, IsPart.at [] [] base0 .nil (E.c .nil)⟩

/-! ### impl_MirrorTable: function 30 -/
def impl_MirrorTable.f (k : Nat) (a0_0 : Int) (a0_1 : Int) (l0_2 : List Int) : Option (Int × Int × List Int × Bool) := (impl_IsTable.f k a0_0 a0_1 l0_2).bind fun t430 => (if t430 = true then ((impl_table.f k a0_1 a0_0 (fun z0_ z1_ => impl_MirrorTable_1.f z0_ z1_ a0_0 a0_1 l0_2)).bind fun bt431 => (some (bt431.1, bt431.2.1, bt431.2.2, true))) else (some (0, 0, ([] : List Int), false)))
set_option maxRecDepth 100000 in
set_option maxHeartbeats 20000000 in
theorem impl_MirrorTable.ac (k : Nat) (a0_0 : Int) (a0_1 : Int) (l0_2 : List Int) (r1 : Int) (r2 : Int) (r3 : List Int) (r4 : Bool) (h : impl_MirrorTable.f k a0_0 a0_1 l0_2 = some (r1, r2, r3, r4)) :
  ACalls Try.prog 30 [.agg [.lit (.int .i64 a0_0), .lit (.int .i64 a0_1), .row 1 l0_2.length false (ints .i64 l0_2)]] [] (fun v H' => v = .tup [.agg [.lit (.int .i64 r1), .lit (.int .i64 r2), .own 0 r3.length], .lit (.bool r4)] ∧ H' = [.sl 3 1 r3.length false (ints .i64 r3)]) := by
 refine ACalls.ofV Try.func30 rfl (by exact Nat.le_of_ble_eq_true rfl) ?_
 simp only [Try.ntmps30, env0, impl_MirrorTable.f] at h ⊢
 refine AWp.seq ?_
 refine AWp.region ?_
 refine L.M M.bx ?_
 refine L.M (M.al Y26) ?_
 refine L.Y Y.asg ?_
 refine AList.nil ?_
 refine AWp.seq ?_
 refine AWp.seq ?_
 refine AWp.region ?_
 refine L.S (S.ldN Try.underlying26 Y26) ?_
 replace h := Option.bind_eq_some_iff.1 h
 obtain ⟨t430, hc1, h⟩ := h
 refine L.C (C.callE (l := true) [] Try.func24 (impl_IsTable.ac _ _ _ _ _ hc1) .nil ?_)
 refine L.Y Y.nt ?_
 refine AList.nil ?_
 refine W.cond (fun hb => ?_) (fun hb => ?_)
 ·
  have hb2 := hb
  try simp only [hS, hE, ne_eq] at hb
  first | rw [if_pos hb2] at h | rw [if_neg (Bool.eq_false_iff.1 hb2)] at h | rw [if_pos hb] at h | rw [if_neg hb] at h | (simp only [hb, hT, reduceIte] at h) | skip
  refine AWp.seq ?_
  refine AWp.region ?_
  refine L.Y (Y.bd Try.underlying26 Y26 P26) ?_
  refine L.S (S.stb Y26) ?_
  refine L.Y Y.asg ?_
  refine AList.nil ?_
  simp only [Option.some.injEq, Prod.mk.injEq] at h
  obtain ⟨rfl, rfl, rfl, rfl⟩ := h
  refine AWp.ret ?_
  exact ⟨.inr rfl, _, _, _, Res.c2 Try.underlying26 Y26, ⟨rfl, rfl⟩, PartV.at [(3, 1)] [2] base0 (H.c .nil)⟩
 ·
  have hb2 := hb
  try simp only [hS, hE, ne_eq] at hb
  first | rw [if_pos hb2] at h | rw [if_neg (Bool.eq_false_iff.1 hb2)] at h | rw [if_pos hb] at h | rw [if_neg hb] at h | (simp only [hb, hT, reduceIte] at h) | skip
  refine AWp.skip ?_
  refine AWp.seq ?_
  refine AWp.region ?_
  refine L.Y (Y.fa (off := 1) Try.underlying26 Y3) ?_
  refine L.S (S.ld Try.underlying3) ?_
  refine L.Y (Y.fa (off := 0) Try.underlying26 Y3) ?_
  refine L.S (S.ld Try.underlying3) ?_
  refine L.Y Y.fn ?_
  replace h := Option.bind_eq_some_iff.1 h
  obtain ⟨⟨t431, t432, t433⟩, hc3, h⟩ := h
  dsimp only at h
  refine L.C (C.callE (l := true) [] Try.func36 (impl_table.ac _ _ _ _ _ _ _ hc3 57 _ (FnOk.at_ Try.func57) (by simp [noids, noid, noids_ints]) (fun x_ y_ r_ h_ => impl_MirrorTable_1.ac x_ y_ _ _ _ r_ h_)) .nil ?_)
  refine L.S (S.stb Y26) ?_
  refine L.Y Y.asg ?_
  refine AList.nil ?_
  simp only [Option.some.injEq, Prod.mk.injEq] at h
  obtain ⟨rfl, rfl, rfl, rfl⟩ := h
  refine AWp.ret ?_
  exact ⟨.inr rfl, _, _, _, Res.c2 Try.underlying26 Y26, ⟨rfl, rfl⟩, PartV.at [] [2] base0 (H.c .nil)⟩

/-! ### impl_OppositeTable_1: function 58 -/
def impl_OppositeTable_1.f (a0 : Int) (a1 : Int) (a2_0 : Int) (a2_1 : Int) (l2_2 : List Int) : Option (Bool) := (impl_Table_marked.f a2_0 a2_1 l2_2 a0 a1).bind fun t436 => (some (!t436))
set_option maxRecDepth 100000 in
set_option maxHeartbeats 20000000 in
theorem impl_OppositeTable_1.ac (a0 : Int) (a1 : Int) (a2_0 : Int) (a2_1 : Int) (l2_2 : List Int) (r : Bool) (h : impl_OppositeTable_1.f a0 a1 a2_0 a2_1 l2_2 = some r) :
  ACalls Try.prog 58 [.lit (.int .i64 a0), .lit (.int .i64 a1), .rptr [.lit (.int .i64 a2_0), .lit (.int .i64 a2_1), .row 1 l2_2.length false (ints .i64 l2_2)]] [] (fun v H' => v = .lit (.bool r) ∧ H' = []) := by
 refine ACalls.ofP [5] Try.func58 rfl (by exact Nat.le_of_ble_eq_true rfl) rfl (by decide) ?_
 simp only [Try.ntmps58, env0, impl_OppositeTable_1.f] at h ⊢
 refine AWp.seq ?_
 refine AWp.region ?_
 refine L.Y Y.asg ?_
 refine AList.nil ?_
 refine AWp.seq ?_
 refine AWp.region ?_
 refine L.S (S.ldN Try.underlying26 Y26) ?_
 refine L.Y Y.mv ?_
 refine L.Y Y.mv ?_
 replace h := Option.bind_eq_some_iff.1 h
 obtain ⟨t436, hc1, h⟩ := h
 refine L.C (C.callE (l := true) [] Try.func38 (impl_Table_marked.ac _ _ _ _ _ _ hc1) .nil ?_)
 refine L.Y Y.nt ?_
 refine L.Y Y.asg ?_
 refine AList.nil ?_
 obtain rfl := Option.some.inj h
 refine AWp.ret ?_
 exact ⟨.inr rfl, [(5, _)], _, ⟨rfl, rfl⟩, IsPart.at [] [] base0 .nil (E.c .nil)⟩

/-! ### impl_OppositeTable: function 31 -/
def impl_OppositeTable.f (k : Nat) (a0_0 : Int) (a0_1 : Int) (l0_2 : List Int) : Option (Int × Int × List Int × Bool) := (impl_IsTable.f k a0_0 a0_1 l0_2).bind fun t439 => (if t439 = true then ((impl_table.f k a0_0 a0_1 (fun z0_ z1_ => impl_OppositeTable_1.f z0_ z1_ a0_0 a0_1 l0_2)).bind fun bt440 => (some (bt440.1, bt440.2.1, bt440.2.2, true))) else (some (0, 0, ([] : List Int), false)))
set_option maxRecDepth 100000 in
set_option maxHeartbeats 20000000 in
theorem impl_OppositeTable.ac (k : Nat) (a0_0 : Int) (a0_1 : Int) (l0_2 : List Int) (r1 : Int) (r2 : Int) (r3 : List Int) (r4 : Bool) (h : impl_OppositeTable.f k a0_0 a0_1 l0_2 = some (r1, r2, r3, r4)) :
  ACalls Try.prog 31 [.agg [.lit (.int .i64 a0_0), .lit (.int .i64 a0_1), .row 1 l0_2.length false (ints .i64 l0_2)]] [] (fun v H' => v = .tup [.agg [.lit (.int .i64 r1), .lit (.int .i64 r2), .own 0 r3.length], .lit (.bool r4)] ∧ H' = [.sl 3 1 r3.length false (ints .i64 r3)]) := by
 refine ACalls.ofV Try.func31 rfl (by exact Nat.le_of_ble_eq_true rfl) ?_
 simp only [Try.ntmps31, env0, impl_OppositeTable.f] at h ⊢
 refine AWp.seq ?_
 refine AWp.region ?_
 refine L.M M.bx ?_
 refine L.M (M.al Y26) ?_
 refine L.Y Y.asg ?_
 refine AList.nil ?_
 refine AWp.seq ?_
 refine AWp.seq ?_
 refine AWp.region ?_
 refine L.S (S.ldN Try.underlying26 Y26) ?_
 replace h := Option.bind_eq_some_iff.1 h
 obtain ⟨t439, hc1, h⟩ := h
 refine L.C (C.callE (l := true) [] Try.func24 (impl_IsTable.ac _ _ _ _ _ hc1) .nil ?_)
 refine L.Y Y.nt ?_
 refine AList.nil ?_
 refine W.cond (fun hb => ?_) (fun hb => ?_)
 ·
  have hb2 := hb
  try simp only [hS, hE, ne_eq] at hb
  first | rw [if_pos hb2] at h | rw [if_neg (Bool.eq_false_iff.1 hb2)] at h | rw [if_pos hb] at h | rw [if_neg hb] at h | (simp only [hb, hT, reduceIte] at h) | skip
  refine AWp.seq ?_
  refine AWp.region ?_
  refine L.Y (Y.bd Try.underlying26 Y26 P26) ?_
  refine L.S (S.stb Y26) ?_
  refine L.Y Y.asg ?_
  refine AList.nil ?_
  simp only [Option.some.injEq, Prod.mk.injEq] at h
  obtain ⟨rfl, rfl, rfl, rfl⟩ := h
  refine AWp.ret ?_
  exact ⟨.inr rfl, _, _, _, Res.c2 Try.underlying26 Y26, ⟨rfl, rfl⟩, PartV.at [(3, 1)] [2] base0 (H.c .nil)⟩
 ·
  have hb2 := hb
  try simp only [hS, hE, ne_eq] at hb
  first | rw [if_pos hb2] at h | rw [if_neg (Bool.eq_false_iff.1 hb2)] at h | rw [if_pos hb] at h | rw [if_neg hb] at h | (simp only [hb, hT, reduceIte] at h) | skip
  refine AWp.skip ?_
  refine AWp.seq ?_
  refine AWp.region ?_
  refine L.Y (Y.fa (off := 0) Try.underlying26 Y3) ?_
  refine L.S (S.ld Try.underlying3) ?_
  refine L.Y (Y.fa (off := 1) Try.underlying26 Y3) ?_
  refine L.S (S.ld Try.underlying3) ?_
  refine L.Y Y.fn ?_
  replace h := Option.bind_eq_some_iff.1 h
  obtain ⟨⟨t440, t441, t442⟩, hc3, h⟩ := h
  dsimp only at h
  refine L.C (C.callE (l := true) [] Try.func36 (impl_table.ac _ _ _ _ _ _ _ hc3 58 _ (FnOk.at_ Try.func58) (by simp [noids, noid, noids_ints]) (fun x_ y_ r_ h_ => impl_OppositeTable_1.ac x_ y_ _ _ _ r_ h_)) .nil ?_)
  refine L.S (S.stb Y26) ?_
  refine L.Y Y.asg ?_
  refine AList.nil ?_
  simp only [Option.some.injEq, Prod.mk.injEq] at h
  obtain ⟨rfl, rfl, rfl, rfl⟩ := h
  refine AWp.ret ?_
  exact ⟨.inr rfl, _, _, _, Res.c2 Try.underlying26 Y26, ⟨rfl, rfl⟩, PartV.at [] [2] base0 (H.c .nil)⟩

end Go.Proofs.Ytakabmokpknknaa.PFnBiordersHaveScales
