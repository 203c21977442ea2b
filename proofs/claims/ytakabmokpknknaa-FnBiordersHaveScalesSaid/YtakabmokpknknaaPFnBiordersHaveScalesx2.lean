-- Written by a program of this session's (wip/myprint2): the functions by the kit's print, the walks by awgen.py. Lean checks it.
import Derived.Test.YtakabmokpknknaaPFnBiordersHaveScalesx0
import Derived.Test.YtakabmokpknknaaPFnBiordersHaveScalesx1
namespace Go.Proofs.Ytakabmokpknknaa.PFnBiordersHaveScales
open Go.RowKit Go.Proofs.YtakabmokpknknaaW.PrintWords Go.Proofs.YtakabmokpknknaaW.PrintLast Go.Proofs.YtakabmokpknknaaW.PrintMore Go.Proofs.YtakabmokpknknaaM Go.Proofs.YtakabmokpknknaaA
attribute [local go_sem] max2_int min2_int max_two min_two max_three min_three max_four min_four   -- for this text's walks alone
set_option linter.unusedVariables false
set_option linter.unusedSimpArgs false

/-! ### spec_ScalesOf: function 13 -/
mutual
def spec_ScalesOf.j0 : Nat → Bool → Int → Int → List Int → Option (List Int × List Int × Bool)
 | 0, _, _, _, _ => none
 | k + 1, x24, x153000, x153001, x153002 => if x24 = true then (some (([] : List Int), ([] : List Int), false)) else (spec_ScalesOf.l0 k 0 ([] : List Int) x153002 (x153002.length : Int) 0 x153000 x153001 x153002)
def spec_ScalesOf.l0 : Nat → Int → List Int → List Int → Int → Int → Int → Int → List Int → Option (List Int × List Int × Bool)
 | 0, _, _, _, _, _, _, _, _ => none
 | k + 1, x5, x6, x26, x27, x28, x153000, x153001, x153002 => if x28 < x27 then (if 0 ≤ x28 then (if x28 < (x26.length : Int) then (spec_ScalesOf.l1 k x5 x6 (rd x26 x28) ([] : List Int) x26 x27 x28 x153002 (x153002.length : Int) 0 x153000 x153001 x153002) else (none)) else (none)) else (spec_ScalesOf.l2 k x5 x6 ([] : List Int) 0 x153000 x153001 x153002)
def spec_ScalesOf.l1 : Nat → Int → List Int → Int → List Int → List Int → Int → Int → List Int → Int → Int → Int → Int → List Int → Option (List Int × List Int × Bool)
 | 0, _, _, _, _, _, _, _, _, _, _, _, _, _ => none
 | k + 1, x5, x6, x9, x10, x26, x27, x28, x33, x34, x35, x153000, x153001, x153002 => if x35 < x34 then (if 0 ≤ x35 then (if x35 < (x33.length : Int) then (if (rd x33 x35) = x9 then (spec_ScalesOf.l1 k x5 x6 x9 x10 x26 x27 x28 x33 x34 (wrap64 (x35 + 1)) x153000 x153001 x153002) else (if (Go.bits .andNot .i64 (rd x33 x35) x9) = 0 then ((spec_l1Put.f k x10 (rd x33 x35)).bind fun t157 => (spec_ScalesOf.l1 k x5 x6 x9 t157 x26 x27 x28 x33 x34 (wrap64 (x35 + 1)) x153000 x153001 x153002)) else (spec_ScalesOf.l1 k x5 x6 x9 x10 x26 x27 x28 x33 x34 (wrap64 (x35 + 1)) x153000 x153001 x153002))) else (none)) else (none)) else (if x6.length < 17592186044416 then ((spec_l1Most.f x5 (x10.length : Int)).bind fun t163 => (spec_ScalesOf.l0 k t163 (x6 ++ [(x10.length : Int)]) x26 x27 (wrap64 (x28 + 1)) x153000 x153001 x153002)) else (none))
def spec_ScalesOf.l2 : Nat → Int → List Int → List Int → Int → Int → Int → List Int → Option (List Int × List Int × Bool)
 | 0, _, _, _, _, _, _, _ => none
 | k + 1, x5, x6, x7, x13, x153000, x153001, x153002 => if x13 < x153001 then (spec_ScalesOf.l3 k x5 x6 x7 x13 (wrap64 (x5 + 1)) x153002 (x153002.length : Int) 0 x153000 x153001 x153002) else (some (x6, x7, true))
def spec_ScalesOf.l3 : Nat → Int → List Int → List Int → Int → Int → List Int → Int → Int → Int → Int → List Int → Option (List Int × List Int × Bool)
 | 0, _, _, _, _, _, _, _, _, _, _, _ => none
 | k + 1, x5, x6, x7, x13, x14, x71, x72, x73, x153000, x153001, x153002 => if x73 < x72 then (if 0 ≤ x73 then (if x73 < (x71.length : Int) then ((spec_orHas.f (rd x71 x73) x13).bind fun t168 => (if t168 = true then (if x73 < (x6.length : Int) then ((spec_l1Least.f x14 (rd x6 x73)).bind fun t170 => (spec_ScalesOf.l3 k x5 x6 x7 x13 t170 x71 x72 (wrap64 (x73 + 1)) x153000 x153001 x153002)) else (none)) else (spec_ScalesOf.l3 k x5 x6 x7 x13 x14 x71 x72 (wrap64 (x73 + 1)) x153000 x153001 x153002))) else (none)) else (none)) else (if x7.length < 17592186044416 then (spec_ScalesOf.l2 k x5 x6 (x7 ++ [x14]) (wrap64 (x13 + 1)) x153000 x153001 x153002) else (none))
end
def spec_ScalesOf.f (k : Nat) (a0_0 : Int) (a0_1 : Int) (l0_2 : List Int) : Option (List Int × List Int × Bool) := (spec_feGood.f k a0_0 a0_1 l0_2).bind fun t153 => (if t153 = true then ((spec_feBiorder.f k a0_0 a0_1 l0_2).bind fun t154 => (spec_ScalesOf.j0 k (!t154) a0_0 a0_1 l0_2)) else (spec_ScalesOf.j0 k true a0_0 a0_1 l0_2))
set_option maxRecDepth 100000 in
set_option maxHeartbeats 20000000 in
theorem spec_ScalesOf.ac (k : Nat) (a0_0 : Int) (a0_1 : Int) (l0_2 : List Int) (r1 : List Int) (r2 : List Int) (r3 : Bool) (h : spec_ScalesOf.f k a0_0 a0_1 l0_2 = some (r1, r2, r3)) :
  ACalls Try.prog 13 [.agg [.lit (.int .i64 a0_0), .lit (.int .i64 a0_1), .row 1 l0_2.length false (ints .i64 l0_2)]] [] (fun v H' => v = .tup [.own 0 r1.length, .own 1 r2.length, .lit (.bool r3)] ∧ H' = [.sl 3 1 r1.length false (ints .i64 r1), .sl 3 1 r2.length false (ints .i64 r2)]) := by
 refine ACalls.ofP [2, 3, 4] Try.func13 rfl (by exact Nat.le_of_ble_eq_true rfl) rfl (by decide) ?_
 simp only [Try.ntmps13, env0, spec_ScalesOf.f] at h ⊢
 refine AWp.seq ?_
 refine AWp.region ?_
 refine L.M M.bx ?_
 refine L.Y Y.asg ?_
 refine L.Y Y.asg ?_
 refine L.Y Y.asg ?_
 refine AList.nil ?_
 refine AWp.seq ?_
 refine AWp.seq ?_
 refine AWp.region ?_
 refine L.S (S.ldN Try.underlying26 Y26) ?_
 replace h := Option.bind_eq_some_iff.1 h
 obtain ⟨t153, hc1, h⟩ := h
 refine L.C (C.callE (l := true) [] Try.func33 (spec_feGood.ac _ _ _ _ _ hc1) .nil ?_)
 refine L.Y Y.nt ?_
 refine L.Y Y.mv ?_
 refine L.Gc (fun hb => ?_) (fun hb => ?_)
 ·
  have hb2 := hb
  try simp only [hS, hE, ne_eq] at hb
  first | rw [if_pos hb2] at h | rw [if_neg (Bool.eq_false_iff.1 hb2)] at h | rw [if_pos hb] at h | rw [if_neg hb] at h | (simp only [hb, hT, reduceIte] at h) | skip
  refine L.Gn hb2 ?_
  refine L.Gn hb2 ?_
  refine L.Gn hb2 ?_
  refine L.Y (Y.pk (c := true) hb2) ?_
  refine AList.nil ?_
  rcases k with _ | k
  ·
   exact absurd h (by simp [spec_ScalesOf.j0])
  simp only [spec_ScalesOf.j0] at h
  refine W.cond (fun hb => ?_) (fun hb => ?_)
  rotate_left
  ·
   first | exact Bool.false_ne_true ((Eq.symm (by assumption)).trans hb) | exact Bool.false_ne_true (hb.symm.trans (by assumption)) | exact DD hb
  have hb3 := hb
  try (first | rw [if_pos hb3] at h | rw [if_neg (Bool.eq_false_iff.1 hb3)] at h | rw [if_pos hb] at h | rw [if_neg hb] at h | (simp only [hb, hT, reduceIte] at h) | skip)
  refine AWp.seq ?_
  refine W.kp [0, 1, 2, 3, 4, 24] ?_
  refine AWp.region ?_
  refine L.Y Y.asg ?_
  refine L.Y Y.asg ?_
  refine L.Y Y.asg ?_
  refine AList.nil ?_
  simp only [Option.some.injEq, Prod.mk.injEq] at h
  obtain ⟨rfl, rfl, rfl⟩ := h
  refine AWp.ret ?_
  exact ⟨.inr rfl, [(2, _), (3, _), (4, _)], _, ⟨rfl, rfl⟩, IsPart.at [(3, 1), (3, 1)] [1, 2] base0 (H.c (H.c .nil)) (E.c (E.c (E.c .nil)))⟩
 ·
  have hb2 := hb
  try simp only [hS, hE, ne_eq] at hb
  first | rw [if_pos hb2] at h | rw [if_neg (Bool.eq_false_iff.1 hb2)] at h | rw [if_pos hb] at h | rw [if_neg hb] at h | (simp only [hb, hT, reduceIte] at h) | skip
  refine L.Gs hb2 (S.ldN Try.underlying26 Y26) ?_
  replace h := Option.bind_eq_some_iff.1 h
  obtain ⟨t154, hc4, h⟩ := h
  refine L.GC hb2 (C.callE (l := true) [] Try.func39 (spec_feBiorder.ac _ _ _ _ _ hc4) .nil ?_)
  refine L.Gy hb2 Y.nt ?_
  refine L.Y (Y.pk (c := false) hb2) ?_
  refine AList.nil ?_
  rcases k with _ | k
  ·
   exact absurd h (by simp [spec_ScalesOf.j0])
  simp only [spec_ScalesOf.j0] at h
  refine W.cond (fun hb => ?_) (fun hb => ?_)
  ·
   have hb5 := hb
   try simp only [hS, hE, ne_eq] at hb
   first | rw [if_pos hb5] at h | rw [if_neg (Bool.eq_false_iff.1 hb5)] at h | rw [if_pos hb] at h | rw [if_neg hb] at h | (simp only [hb, hT, reduceIte] at h) | skip
   refine AWp.seq ?_
   refine W.kp [0, 1, 2, 3, 4, 24] ?_
   refine AWp.region ?_
   refine L.Y Y.asg ?_
   refine L.Y Y.asg ?_
   refine L.Y Y.asg ?_
   refine AList.nil ?_
   simp only [Option.some.injEq, Prod.mk.injEq] at h
   obtain ⟨rfl, rfl, rfl⟩ := h
   refine AWp.ret ?_
   exact ⟨.inr rfl, [(2, _), (3, _), (4, _)], _, ⟨rfl, rfl⟩, IsPart.at [(3, 1), (3, 1)] [1, 2] base0 (H.c (H.c .nil)) (E.c (E.c (E.c .nil)))⟩
  ·
   have hb5 := hb
   try simp only [hS, hE, ne_eq] at hb
   first | rw [if_pos hb5] at h | rw [if_neg (Bool.eq_false_iff.1 hb5)] at h | rw [if_pos hb] at h | rw [if_neg hb] at h | (simp only [hb, hT, reduceIte] at h) | skip
   refine AWp.skip ?_
   refine AWp.seq ?_
   refine W.kp [0, 1, 2, 3, 4, 24] ?_
   refine AWp.region ?_
   refine L.Y Y.asg ?_
   refine AList.nil ?_
   refine AWp.seq ?_
   refine AWp.region ?_
   refine L.Y Y.asg ?_
   refine L.Y Y.asg ?_
   refine AList.nil ?_
   refine AWp.seq ?_
   refine AWp.seq ?_
   refine AWp.region ?_
   refine L.Y (Y.fa (off := 2) Try.underlying26 Y22) ?_
   refine L.S (S.ld Try.underlying22) ?_
   refine L.Y (Y.ln Try.underlying22) ?_
   refine L.Y Y.mv ?_
   refine AList.nil ?_
   refine AWp.block ?_
   refine AWp.loopI (fun kk e H => kk ≤ k ∧ ∃ (x5 : Int) (x6 : List Int) (x27 : Int) (x28 : Int) (x153000 : Int) (x153001 : Int), e = [(1, .ptr 0 0), (5, .lit (.int .i64 x5)), (6, .own 1 x6.length), (7, .lit (.slice none 0 0)), (26, .row 1 l0_2.length false (ints .i64 l0_2)), (27, .lit (.int .i64 x27)), (28, .lit (.int .i64 x28))] ∧ H = [.bx 26 [.lit (.int .i64 x153000), .lit (.int .i64 x153001), .row 1 l0_2.length false (ints .i64 l0_2)], .sl 3 1 x6.length false (ints .i64 x6)] ∧ spec_ScalesOf.l0 kk x5 x6 l0_2 x27 x28 x153000 x153001 l0_2 = some (r1, r2, r3)) (k := k)
    ⟨_, _, ⟨Nat.le_refl _, _, _, _, _, _, _, rfl, rfl, h⟩, IsPart.at [(3, 1)] [0, 1] base0 (H.c (H.c .nil)) (E.c (E.c (E.c (E.c (E.c (E.c (E.c .nil)))))))⟩ ?_
   clear h
   rintro k6 e H ⟨hk7, x5, x6, x27, x28, x153000, x153001, rfl, rfl, h⟩
   cases k6 with
   | zero => exact absurd h (by simp [spec_ScalesOf.l0])
   | succ k6 =>
   simp only [spec_ScalesOf.l0] at h
   refine AWp.seq ?_
   refine AWp.region ?_
   refine L.Y Y.bin ?_
   refine AList.nil ?_
   refine AWp.seq ?_
   refine W.cond (fun hb => ?_) (fun hb => ?_)
   ·
    have hb8 := hb
    try simp only [hS, hE, ne_eq] at hb
    first | rw [if_pos hb8] at h | rw [if_neg (Bool.eq_false_iff.1 hb8)] at h | rw [if_pos hb] at h | rw [if_neg hb] at h | (simp only [hb, hT, reduceIte] at h) | skip
    repeat (first | (rw [iN] at h; obtain ⟨_, h⟩ := h) | (rw [iP] at h; obtain ⟨_, h⟩ := h) | (simp only [bS] at h))
    refine AWp.skip ?_
    refine AWp.seq ?_
    refine AWp.block ?_
    refine AWp.seq ?_
    refine AWp.region ?_
    refine L.Y (Y.ixr Try.underlying22 Y3) ?_
    refine L.S (S.ld Try.underlying3) ?_
    refine L.Y Y.asg ?_
    refine AList.nil ?_
    refine AWp.seq ?_
    refine AWp.region ?_
    refine L.Y Y.asg ?_
    refine AList.nil ?_
    refine AWp.seq ?_
    refine AWp.seq ?_
    refine AWp.region ?_
    refine L.Y (Y.fa (off := 2) Try.underlying26 Y22) ?_
    refine L.S (S.ld Try.underlying22) ?_
    refine L.Y (Y.ln Try.underlying22) ?_
    refine L.Y Y.mv ?_
    refine AList.nil ?_
    refine AWp.block ?_
    refine AWp.loopI (fun kk e H => kk ≤ k6 ∧ ∃ (x5 : Int) (x6 : List Int) (x9 : Int) (x10 : List Int) (x27 : Int) (x28 : Int) (x34 : Int) (x35 : Int) (x153000 : Int) (x153001 : Int), e = [(1, .ptr 0 0), (5, .lit (.int .i64 x5)), (6, .own 1 x6.length), (7, .lit (.slice none 0 0)), (9, .lit (.int .i64 x9)), (10, .row 1 x10.length false (ints .i64 x10)), (26, .row 1 l0_2.length false (ints .i64 l0_2)), (27, .lit (.int .i64 x27)), (28, .lit (.int .i64 x28)), (33, .row 1 l0_2.length false (ints .i64 l0_2)), (34, .lit (.int .i64 x34)), (35, .lit (.int .i64 x35))] ∧ H = [.bx 26 [.lit (.int .i64 x153000), .lit (.int .i64 x153001), .row 1 l0_2.length false (ints .i64 l0_2)], .sl 3 1 x6.length false (ints .i64 x6)] ∧ spec_ScalesOf.l1 kk x5 x6 x9 x10 l0_2 x27 x28 l0_2 x34 x35 x153000 x153001 l0_2 = some (r1, r2, r3)) (k := k6)
     ⟨_, _, ⟨Nat.le_refl _, _, _, _, _, _, _, _, _, _, _, rfl, rfl, h⟩, IsPart.at [] [0, 1] base0 (H.c (H.c .nil)) (E.c (E.c (E.c (E.c (E.c (E.c (E.c (E.c (E.c (E.c (E.c (E.c .nil))))))))))))⟩ ?_
    clear h
    rintro k9 e H ⟨hk10, x5, x6, x9, x10, x27, x28, x34, x35, x153000, x153001, rfl, rfl, h⟩
    cases k9 with
    | zero => exact absurd h (by simp [spec_ScalesOf.l1])
    | succ k9 =>
    simp only [spec_ScalesOf.l1] at h
    refine AWp.seq ?_
    refine AWp.region ?_
    refine L.Y Y.bin ?_
    refine AList.nil ?_
    refine AWp.seq ?_
    refine W.cond (fun hb => ?_) (fun hb => ?_)
    ·
     have hb11 := hb
     try simp only [hS, hE, ne_eq] at hb
     first | rw [if_pos hb11] at h | rw [if_neg (Bool.eq_false_iff.1 hb11)] at h | rw [if_pos hb] at h | rw [if_neg hb] at h | (simp only [hb, hT, reduceIte] at h) | skip
     repeat (first | (rw [iN] at h; obtain ⟨_, h⟩ := h) | (rw [iP] at h; obtain ⟨_, h⟩ := h) | (simp only [bS] at h))
     refine AWp.skip ?_
     refine AWp.seq ?_
     refine AWp.block ?_
     refine AWp.seq ?_
     refine AWp.region ?_
     refine L.Y (Y.ixr Try.underlying22 Y3) ?_
     refine L.S (S.ld Try.underlying3) ?_
     refine L.Y Y.asg ?_
     refine AList.nil ?_
     refine AWp.seq ?_
     refine AWp.region ?_
     refine L.Y Y.mv ?_
     refine L.Y Y.mv ?_
     refine L.Y Y.bin ?_
     refine L.Y Y.mv ?_
     refine L.Gc (fun hb => ?_) (fun hb => ?_)
     ·
      have hb12 := hb
      try simp only [hS, hE, ne_eq] at hb
      first | rw [if_pos hb12] at h | rw [if_neg (Bool.eq_false_iff.1 hb12)] at h | rw [if_pos hb] at h | rw [if_neg hb] at h | (simp only [hb, hT, reduceIte] at h) | skip
      refine L.Gy hb12 Y.mv ?_
      refine L.Gy hb12 Y.mv ?_
      refine L.Gy hb12 Y.bin ?_
      refine L.Gy hb12 Y.bin ?_
      refine L.Y (Y.pk (c := true) hb12) ?_
      refine AList.nil ?_
      refine W.cond (fun hb => ?_) (fun hb => ?_)
      ·
       have hb13 := hb
       try simp only [hS, hE, ne_eq] at hb
       first | rw [if_pos hb13] at h | rw [if_neg (Bool.eq_false_iff.1 hb13)] at h | rw [if_pos hb] at h | rw [if_neg hb] at h | (simp only [hb, hT, reduceIte] at h) | skip
       refine W.kp [1, 5, 6, 7, 9, 10, 12, 26, 27, 28, 33, 34, 35, 36, 47] ?_
       refine AWp.region ?_
       refine L.Y Y.mv ?_
       refine L.Y Y.mv ?_
       replace h := Option.bind_eq_some_iff.1 h
       obtain ⟨t157, hc14, h⟩ := h
       refine L.C (C.callE (l := false) [] Try.func40 (spec_l1Put.ac _ _ _ _ hc14) .nil ?_)
       refine L.Y Y.asg ?_
       refine AList.nil ?_
       refine AWp.region ?_
       refine L.Y Y.bin ?_
       refine L.Y Y.mv ?_
       refine AList.nil ?_
       exact ⟨k9, by omega, _, _, ⟨by omega, _, _, _, _, _, _, _, _, _, _, rfl, rfl, h⟩, IsPart.at [] [0, 1] base0 (H.c (H.c .nil)) (E.c (E.c (E.c (E.c (E.c (E.c (E.c (E.c (E.c (E.c (E.c (E.c .nil))))))))))))⟩
      ·
       have hb13 := hb
       try simp only [hS, hE, ne_eq] at hb
       first | rw [if_pos hb13] at h | rw [if_neg (Bool.eq_false_iff.1 hb13)] at h | rw [if_pos hb] at h | rw [if_neg hb] at h | (simp only [hb, hT, reduceIte] at h) | skip
       refine AWp.skip ?_
       refine W.kp [1, 5, 6, 7, 9, 10, 12, 26, 27, 28, 33, 34, 35, 36, 47] ?_
       refine AWp.region ?_
       refine L.Y Y.bin ?_
       refine L.Y Y.mv ?_
       refine AList.nil ?_
       exact ⟨k9, by omega, _, _, ⟨by omega, _, _, _, _, _, _, _, _, _, _, rfl, rfl, h⟩, IsPart.at [] [0, 1] base0 (H.c (H.c .nil)) (E.c (E.c (E.c (E.c (E.c (E.c (E.c (E.c (E.c (E.c (E.c (E.c .nil))))))))))))⟩
     ·
      have hb12 := hb
      try simp only [hS, hE, ne_eq] at hb
      first | rw [if_pos hb12] at h | rw [if_neg (Bool.eq_false_iff.1 hb12)] at h | rw [if_pos hb] at h | rw [if_neg hb] at h | (simp only [hb, hT, reduceIte] at h) | skip
      refine L.Gn hb12 ?_
      refine L.Gn hb12 ?_
      refine L.Gn hb12 ?_
      refine L.Gn hb12 ?_
      refine L.Y (Y.pk (c := false) hb12) ?_
      refine AList.nil ?_
      refine W.cond (fun hb => ?_) (fun hb => ?_)
      ·
       first | exact Bool.false_ne_true ((Eq.symm (by assumption)).trans hb) | exact Bool.false_ne_true (hb.symm.trans (by assumption)) | exact DD hb
      have hb15 := hb
      refine AWp.skip ?_
      refine W.kp [1, 5, 6, 7, 9, 10, 12, 26, 27, 28, 33, 34, 35, 36, 47] ?_
      refine AWp.region ?_
      refine L.Y Y.bin ?_
      refine L.Y Y.mv ?_
      refine AList.nil ?_
      exact ⟨k9, by omega, _, _, ⟨by omega, _, _, _, _, _, _, _, _, _, _, rfl, rfl, h⟩, IsPart.at [] [0, 1] base0 (H.c (H.c .nil)) (E.c (E.c (E.c (E.c (E.c (E.c (E.c (E.c (E.c (E.c (E.c (E.c .nil))))))))))))⟩
    ·
     have hb11 := hb
     try simp only [hS, hE, ne_eq] at hb
     first | rw [if_pos hb11] at h | rw [if_neg (Bool.eq_false_iff.1 hb11)] at h | rw [if_pos hb] at h | rw [if_neg hb] at h | (simp only [hb, hT, reduceIte] at h) | skip
     repeat (first | (rw [iN] at h; obtain ⟨_, h⟩ := h) | (rw [iP] at h; obtain ⟨_, h⟩ := h) | (simp only [bS] at h))
     refine AWp.exit ?_
     refine AWp.seq ?_
     refine AWp.region ?_
     refine L.Y Y.mv ?_
     refine L.Y Y.mv ?_
     refine L.Y (Y.ln Try.underlying22) ?_
     refine L.M (M.bs Try.underlying22 Y3) ?_
     refine L.S (S.ap (nn' := false) Try.underlying22 Y3) ?_
     refine L.Y Y.asg ?_
     refine AList.nil ?_
     refine W.kp [1, 5, 6, 7, 9, 10, 26, 27, 28, 33, 34, 35, 36] ?_
     refine AWp.region ?_
     refine L.Y Y.mv ?_
     refine L.Y Y.mv ?_
     refine L.Y (Y.ln Try.underlying22) ?_
     replace h := Option.bind_eq_some_iff.1 h
     obtain ⟨t163, hc16, h⟩ := h
     refine L.C (C.callE (l := true) [] Try.func41 (spec_l1Most.ac _ _ _ hc16) .nil ?_)
     refine L.Y Y.asg ?_
     refine AList.nil ?_
     refine W.kp [1, 5, 6, 7, 9, 10, 26, 27, 28, 33, 34, 35, 36] ?_
     refine AWp.region ?_
     refine L.Y Y.bin ?_
     refine L.Y Y.mv ?_
     refine AList.nil ?_
     exact ⟨k9, by omega, _, _, ⟨by omega, _, _, _, _, _, _, rfl, rfl, h⟩, IsPart.at [] [0, 1] base0 (H.c (H.c .nil)) (E.c (E.c (E.c (E.c (E.c (E.c (E.c .nil)))))))⟩
   ·
    have hb8 := hb
    try simp only [hS, hE, ne_eq] at hb
    first | rw [if_pos hb8] at h | rw [if_neg (Bool.eq_false_iff.1 hb8)] at h | rw [if_pos hb] at h | rw [if_neg hb] at h | (simp only [hb, hT, reduceIte] at h) | skip
    refine AWp.exit ?_
    refine AWp.seq ?_
    refine AWp.seq ?_
    refine AWp.region ?_
    refine L.Y Y.asg ?_
    refine AList.nil ?_
    refine AWp.block ?_
    refine AWp.loopI (fun kk e H => kk ≤ k6 ∧ ∃ (x5 : Int) (x6 : List Int) (x7 : List Int) (x13 : Int) (x153000 : Int) (x153001 : Int), e = [(1, .ptr 0 0), (5, .lit (.int .i64 x5)), (6, .own 1 x6.length), (7, .own 2 x7.length), (13, .lit (.int .i64 x13))] ∧ H = [.bx 26 [.lit (.int .i64 x153000), .lit (.int .i64 x153001), .row 1 l0_2.length false (ints .i64 l0_2)], .sl 3 1 x6.length false (ints .i64 x6), .sl 3 1 x7.length false (ints .i64 x7)] ∧ spec_ScalesOf.l2 kk x5 x6 x7 x13 x153000 x153001 l0_2 = some (r1, r2, r3)) (k := k6)
     ⟨_, _, ⟨Nat.le_refl _, _, _, _, _, _, _, rfl, rfl, h⟩, IsPart.at [(3, 1)] [0, 1, 2] base0 (H.c (H.c (H.c .nil))) (E.c (E.c (E.c (E.c (E.c .nil)))))⟩ ?_
    clear h
    rintro k17 e H ⟨hk18, x5, x6, x7, x13, x153000, x153001, rfl, rfl, h⟩
    cases k17 with
    | zero => exact absurd h (by simp [spec_ScalesOf.l2])
    | succ k17 =>
    simp only [spec_ScalesOf.l2] at h
    refine AWp.seq ?_
    refine AWp.seq ?_
    refine AWp.region ?_
    refine L.Y Y.mv ?_
    refine L.Y (Y.fa (off := 1) Try.underlying26 Y3) ?_
    refine L.S (S.ld Try.underlying3) ?_
    refine L.Y Y.bin ?_
    refine AList.nil ?_
    refine W.cond (fun hb => ?_) (fun hb => ?_)
    ·
     have hb19 := hb
     try simp only [hS, hE, ne_eq] at hb
     first | rw [if_pos hb19] at h | rw [if_neg (Bool.eq_false_iff.1 hb19)] at h | rw [if_pos hb] at h | rw [if_neg hb] at h | (simp only [hb, hT, reduceIte] at h) | skip
     refine AWp.skip ?_
     refine AWp.seq ?_
     refine AWp.block ?_
     refine AWp.seq ?_
     refine AWp.region ?_
     refine L.Y Y.mv ?_
     refine L.Y Y.bin ?_
     refine L.Y Y.asg ?_
     refine AList.nil ?_
     refine AWp.seq ?_
     refine AWp.seq ?_
     refine W.kp [1, 5, 6, 7, 13, 14, 65] ?_
     refine AWp.region ?_
     refine L.Y (Y.fa (off := 2) Try.underlying26 Y22) ?_
     refine L.S (S.ld Try.underlying22) ?_
     refine L.Y (Y.ln Try.underlying22) ?_
     refine L.Y Y.mv ?_
     refine AList.nil ?_
     refine AWp.block ?_
     refine AWp.loopI (fun kk e H => kk ≤ k17 ∧ ∃ (x5 : Int) (x6 : List Int) (x7 : List Int) (x13 : Int) (x14 : Int) (x72 : Int) (x73 : Int) (x153000 : Int) (x153001 : Int), e = [(1, .ptr 0 0), (5, .lit (.int .i64 x5)), (6, .own 1 x6.length), (7, .own 2 x7.length), (13, .lit (.int .i64 x13)), (14, .lit (.int .i64 x14)), (71, .row 1 l0_2.length false (ints .i64 l0_2)), (72, .lit (.int .i64 x72)), (73, .lit (.int .i64 x73))] ∧ H = [.bx 26 [.lit (.int .i64 x153000), .lit (.int .i64 x153001), .row 1 l0_2.length false (ints .i64 l0_2)], .sl 3 1 x6.length false (ints .i64 x6), .sl 3 1 x7.length false (ints .i64 x7)] ∧ spec_ScalesOf.l3 kk x5 x6 x7 x13 x14 l0_2 x72 x73 x153000 x153001 l0_2 = some (r1, r2, r3)) (k := k17)
      ⟨_, _, ⟨Nat.le_refl _, _, _, _, _, _, _, _, _, _, rfl, rfl, h⟩, IsPart.at [] [0, 1, 2] base0 (H.c (H.c (H.c .nil))) (E.c (E.c (E.c (E.c (E.c (E.c (E.c (E.c (E.c .nil)))))))))⟩ ?_
     clear h
     rintro k20 e H ⟨hk21, x5, x6, x7, x13, x14, x72, x73, x153000, x153001, rfl, rfl, h⟩
     cases k20 with
     | zero => exact absurd h (by simp [spec_ScalesOf.l3])
     | succ k20 =>
     simp only [spec_ScalesOf.l3] at h
     refine AWp.seq ?_
     refine AWp.region ?_
     refine L.Y Y.bin ?_
     refine AList.nil ?_
     refine AWp.seq ?_
     refine W.cond (fun hb => ?_) (fun hb => ?_)
     ·
      have hb22 := hb
      try simp only [hS, hE, ne_eq] at hb
      first | rw [if_pos hb22] at h | rw [if_neg (Bool.eq_false_iff.1 hb22)] at h | rw [if_pos hb] at h | rw [if_neg hb] at h | (simp only [hb, hT, reduceIte] at h) | skip
      repeat (first | (rw [iN] at h; obtain ⟨_, h⟩ := h) | (rw [iP] at h; obtain ⟨_, h⟩ := h) | (simp only [bS] at h))
      refine AWp.skip ?_
      refine AWp.seq ?_
      refine AWp.block ?_
      refine AWp.seq ?_
      refine AWp.region ?_
      refine L.Y Y.mv ?_
      refine L.Y (Y.ixr Try.underlying22 Y3) ?_
      refine L.S (S.ld Try.underlying3) ?_
      refine L.Y Y.asg ?_
      refine L.Y Y.asg ?_
      refine AList.nil ?_
      refine AWp.seq ?_
      refine AWp.region ?_
      refine L.Y Y.mv ?_
      refine L.Y Y.mv ?_
      replace h := Option.bind_eq_some_iff.1 h
      obtain ⟨t168, hc23, h⟩ := h
      refine L.C (C.callE (l := true) [] Try.func42 (spec_orHas.ac _ _ _ hc23) .nil ?_)
      refine AList.nil ?_
      refine W.cond (fun hb => ?_) (fun hb => ?_)
      ·
       have hb24 := hb
       try simp only [hS, hE, ne_eq] at hb
       first | rw [if_pos hb24] at h | rw [if_neg (Bool.eq_false_iff.1 hb24)] at h | rw [if_pos hb] at h | rw [if_neg hb] at h | (simp only [hb, hT, reduceIte] at h) | skip
       repeat (first | (rw [iN] at h; obtain ⟨_, h⟩ := h) | (rw [iP] at h; obtain ⟨_, h⟩ := h) | (simp only [bS] at h))
       refine W.kp [1, 5, 6, 7, 13, 14, 15, 16, 71, 72, 73, 74, 80] ?_
       refine AWp.region ?_
       refine L.Y Y.mv ?_
       refine L.Y Y.mv ?_
       refine L.Y Y.mv ?_
       refine L.Y (Y.ixo Try.underlying22 Y3) ?_
       refine L.S (S.ld Try.underlying3) ?_
       replace h := Option.bind_eq_some_iff.1 h
       obtain ⟨t170, hc25, h⟩ := h
       refine L.C (C.callE (l := true) [] Try.func43 (spec_l1Least.ac _ _ _ hc25) .nil ?_)
       refine L.Y Y.asg ?_
       refine AList.nil ?_
       refine W.kp [1, 5, 6, 7, 13, 14, 15, 16, 71, 72, 73, 74, 80] ?_
       refine AWp.region ?_
       refine L.Y Y.bin ?_
       refine L.Y Y.mv ?_
       refine AList.nil ?_
       exact ⟨k20, by omega, _, _, ⟨by omega, _, _, _, _, _, _, _, _, _, rfl, rfl, h⟩, IsPart.at [] [0, 1, 2] base0 (H.c (H.c (H.c .nil))) (E.c (E.c (E.c (E.c (E.c (E.c (E.c (E.c (E.c .nil)))))))))⟩
      ·
       have hb24 := hb
       try simp only [hS, hE, ne_eq] at hb
       first | rw [if_pos hb24] at h | rw [if_neg (Bool.eq_false_iff.1 hb24)] at h | rw [if_pos hb] at h | rw [if_neg hb] at h | (simp only [hb, hT, reduceIte] at h) | skip
       refine AWp.skip ?_
       refine W.kp [1, 5, 6, 7, 13, 14, 15, 16, 71, 72, 73, 74, 80] ?_
       refine AWp.region ?_
       refine L.Y Y.bin ?_
       refine L.Y Y.mv ?_
       refine AList.nil ?_
       exact ⟨k20, by omega, _, _, ⟨by omega, _, _, _, _, _, _, _, _, _, rfl, rfl, h⟩, IsPart.at [] [0, 1, 2] base0 (H.c (H.c (H.c .nil))) (E.c (E.c (E.c (E.c (E.c (E.c (E.c (E.c (E.c .nil)))))))))⟩
     ·
      have hb22 := hb
      try simp only [hS, hE, ne_eq] at hb
      first | rw [if_pos hb22] at h | rw [if_neg (Bool.eq_false_iff.1 hb22)] at h | rw [if_pos hb] at h | rw [if_neg hb] at h | (simp only [hb, hT, reduceIte] at h) | skip
      repeat (first | (rw [iN] at h; obtain ⟨_, h⟩ := h) | (rw [iP] at h; obtain ⟨_, h⟩ := h) | (simp only [bS] at h))
      refine AWp.exit ?_
      refine AWp.region ?_
      refine L.Y Y.mv ?_
      refine L.Y Y.mv ?_
      refine L.M (M.bs Try.underlying22 Y3) ?_
      refine L.S (S.ap (nn' := false) Try.underlying22 Y3) ?_
      refine L.Y Y.asg ?_
      refine AList.nil ?_
      refine W.kp [1, 5, 6, 7, 13, 14, 71, 72, 73, 74] ?_
      refine AWp.region ?_
      refine L.Y Y.mv ?_
      refine L.Y Y.bin ?_
      refine L.Y Y.asg ?_
      refine AList.nil ?_
      exact ⟨k20, by omega, _, _, ⟨by omega, _, _, _, _, _, _, rfl, rfl, h⟩, IsPart.at [] [0, 1, 2] base0 (H.c (H.c (H.c .nil))) (E.c (E.c (E.c (E.c (E.c .nil)))))⟩
    ·
     have hb19 := hb
     try simp only [hS, hE, ne_eq] at hb
     first | rw [if_pos hb19] at h | rw [if_neg (Bool.eq_false_iff.1 hb19)] at h | rw [if_pos hb] at h | rw [if_neg hb] at h | (simp only [hb, hT, reduceIte] at h) | skip
     refine AWp.exit ?_
     refine AWp.seq ?_
     refine AWp.region ?_
     refine L.Y Y.mv ?_
     refine L.Y Y.mv ?_
     refine L.Y Y.asg ?_
     refine L.Y Y.asg ?_
     refine L.Y Y.asg ?_
     refine AList.nil ?_
     simp only [Option.some.injEq, Prod.mk.injEq] at h
     obtain ⟨rfl, rfl, rfl⟩ := h
     refine AWp.ret ?_
     exact ⟨.inr rfl, [(2, _), (3, _), (4, _)], _, ⟨rfl, rfl⟩, IsPart.at [] [1, 2] base0 (H.c (H.c .nil)) (E.c (E.c (E.c .nil)))⟩

/-! ### impl_within: function 49 -/
def impl_within.f (a0 : Int) (a1 : Int) (a2 : Int) : Option (Bool) := if a0 ≥ a1 then (some (decide (a0 ≤ a2))) else (some false)
set_option maxRecDepth 100000 in
set_option maxHeartbeats 20000000 in
theorem impl_within.ac (a0 : Int) (a1 : Int) (a2 : Int) (r : Bool) (h : impl_within.f a0 a1 a2 = some r) :
  ACalls Try.prog 49 [.lit (.int .i64 a0), .lit (.int .i64 a1), .lit (.int .i64 a2)] [] (fun v H' => v = .lit (.bool r) ∧ H' = []) := by
 refine ACalls.ofP [6] Try.func49 rfl (by exact Nat.le_of_ble_eq_true rfl) rfl (by decide) ?_
 simp only [Try.ntmps49, env0, impl_within.f] at h ⊢
 refine AWp.seq ?_
 refine AWp.region ?_
 refine L.Y Y.asg ?_
 refine AList.nil ?_
 refine AWp.seq ?_
 refine AWp.region ?_
 refine L.Y Y.mv ?_
 refine L.Y Y.mv ?_
 refine L.Y Y.bin ?_
 refine L.Y Y.mv ?_
 refine L.Gc (fun hb => ?_) (fun hb => ?_)
 ·
  have hb1 := hb
  try simp only [hS, hE, ne_eq] at hb
  first | rw [if_pos hb1] at h | rw [if_neg (Bool.eq_false_iff.1 hb1)] at h | rw [if_pos hb] at h | rw [if_neg hb] at h | (simp only [hb, hT, reduceIte] at h) | skip
  refine L.Gy hb1 Y.mv ?_
  refine L.Gy hb1 Y.mv ?_
  refine L.Gy hb1 Y.bin ?_
  refine L.Y (Y.pk (c := true) hb1) ?_
  refine L.Y Y.asg ?_
  refine AList.nil ?_
  obtain rfl := Option.some.inj h
  refine AWp.ret ?_
  exact ⟨.inr rfl, [(6, _)], _, ⟨rfl, rfl⟩, IsPart.at [] [] base0 .nil (E.c .nil)⟩
 ·
  have hb1 := hb
  try simp only [hS, hE, ne_eq] at hb
  first | rw [if_pos hb1] at h | rw [if_neg (Bool.eq_false_iff.1 hb1)] at h | rw [if_pos hb] at h | rw [if_neg hb] at h | (simp only [hb, hT, reduceIte] at h) | skip
  refine L.Gn hb1 ?_
  refine L.Gn hb1 ?_
  refine L.Gn hb1 ?_
  refine L.Y (Y.pk (c := false) hb1) ?_
  refine L.Y Y.asg ?_
  refine AList.nil ?_
  obtain rfl := Option.some.inj h
  refine AWp.ret ?_
  exact ⟨.inr rfl, [(6, _)], _, ⟨rfl, rfl⟩, IsPart.at [] [] base0 .nil (E.c .nil)⟩

/-! ### impl_allWithin: function 50 -/
def impl_allWithin.l0 : Nat → Int → Int → List Int → Int → Int → Option (Bool)
 | 0, _, _, _, _, _ => none
 | k + 1, x1, x2, x9, x10, x11 => if x11 < x10 then (if 0 ≤ x11 then (if x11 < (x9.length : Int) then ((impl_within.f (rd x9 x11) x1 x2).bind fun t172 => (if t172 = true then (impl_allWithin.l0 k x1 x2 x9 x10 (wrap64 (x11 + 1))) else (some false))) else (none)) else (none)) else (some true)
def impl_allWithin.f (k : Nat) (l0 : List Int) (a1 : Int) (a2 : Int) : Option (Bool) := impl_allWithin.l0 k a1 a2 l0 (l0.length : Int) 0
set_option maxRecDepth 100000 in
set_option maxHeartbeats 20000000 in
theorem impl_allWithin.ac (k : Nat) (l0 : List Int) (a1 : Int) (a2 : Int) (r : Bool) (h : impl_allWithin.f k l0 a1 a2 = some r) :
  ACalls Try.prog 50 [.row 1 l0.length false (ints .i64 l0), .lit (.int .i64 a1), .lit (.int .i64 a2)] [] (fun v H' => v = .lit (.bool r) ∧ H' = []) := by
 refine ACalls.ofP [6] Try.func50 rfl (by exact Nat.le_of_ble_eq_true rfl) rfl (by decide) ?_
 simp only [Try.ntmps50, env0, impl_allWithin.f] at h ⊢
 refine AWp.seq ?_
 refine AWp.region ?_
 refine L.Y Y.asg ?_
 refine AList.nil ?_
 refine AWp.seq ?_
 refine AWp.seq ?_
 refine AWp.region ?_
 refine L.Y Y.mv ?_
 refine L.Y (Y.ln Try.underlying22) ?_
 refine L.Y Y.mv ?_
 refine AList.nil ?_
 refine AWp.block ?_
 refine AWp.loopI (fun kk e H => kk ≤ k ∧ ∃ (x1 : Int) (x2 : Int) (x10 : Int) (x11 : Int), e = [(1, .lit (.int .i64 x1)), (2, .lit (.int .i64 x2)), (9, .row 1 l0.length false (ints .i64 l0)), (10, .lit (.int .i64 x10)), (11, .lit (.int .i64 x11))] ∧ H = [] ∧ impl_allWithin.l0 kk x1 x2 l0 x10 x11 = some r) (k := k)
  ⟨_, _, ⟨Nat.le_refl _, _, _, _, _, rfl, rfl, h⟩, IsPart.at [] [] base0 .nil (E.c (E.c (E.c (E.c (E.c .nil)))))⟩ ?_
 clear h
 rintro k1 e H ⟨hk2, x1, x2, x10, x11, rfl, rfl, h⟩
 cases k1 with
 | zero => exact absurd h (by simp [impl_allWithin.l0])
 | succ k1 =>
 simp only [impl_allWithin.l0] at h
 refine AWp.seq ?_
 refine AWp.region ?_
 refine L.Y Y.bin ?_
 refine AList.nil ?_
 refine AWp.seq ?_
 refine W.cond (fun hb => ?_) (fun hb => ?_)
 ·
  have hb3 := hb
  try simp only [hS, hE, ne_eq] at hb
  first | rw [if_pos hb3] at h | rw [if_neg (Bool.eq_false_iff.1 hb3)] at h | rw [if_pos hb] at h | rw [if_neg hb] at h | (simp only [hb, hT, reduceIte] at h) | skip
  repeat (first | (rw [iN] at h; obtain ⟨_, h⟩ := h) | (rw [iP] at h; obtain ⟨_, h⟩ := h) | (simp only [bS] at h))
  refine AWp.skip ?_
  refine AWp.seq ?_
  refine AWp.block ?_
  refine AWp.seq ?_
  refine AWp.region ?_
  refine L.Y (Y.ixr Try.underlying22 Y3) ?_
  refine L.S (S.ld Try.underlying3) ?_
  refine L.Y Y.asg ?_
  refine AList.nil ?_
  refine AWp.seq ?_
  refine AWp.region ?_
  refine L.Y Y.mv ?_
  refine L.Y Y.mv ?_
  refine L.Y Y.mv ?_
  replace h := Option.bind_eq_some_iff.1 h
  obtain ⟨t172, hc4, h⟩ := h
  refine L.C (C.callE (l := true) [] Try.func49 (impl_within.ac _ _ _ _ hc4) .nil ?_)
  refine L.Y Y.nt ?_
  refine AList.nil ?_
  refine W.cond (fun hb => ?_) (fun hb => ?_)
  ·
   have hb5 := hb
   try simp only [hS, hE, ne_eq] at hb
   first | rw [if_pos hb5] at h | rw [if_neg (Bool.eq_false_iff.1 hb5)] at h | rw [if_pos hb] at h | rw [if_neg hb] at h | (simp only [hb, hT, reduceIte] at h) | skip
   refine AWp.seq ?_
   refine W.kp [1, 2, 8, 9, 10, 11, 12, 19] ?_
   refine AWp.region ?_
   refine L.Y Y.asg ?_
   refine AList.nil ?_
   obtain rfl := Option.some.inj h
   refine AWp.ret ?_
   exact ⟨.inr rfl, [(6, _)], _, ⟨rfl, rfl⟩, IsPart.at [] [] base0 .nil (E.c .nil)⟩
  ·
   have hb5 := hb
   try simp only [hS, hE, ne_eq] at hb
   first | rw [if_pos hb5] at h | rw [if_neg (Bool.eq_false_iff.1 hb5)] at h | rw [if_pos hb] at h | rw [if_neg hb] at h | (simp only [hb, hT, reduceIte] at h) | skip
   refine AWp.skip ?_
   refine W.kp [1, 2, 8, 9, 10, 11, 12, 19] ?_
   refine AWp.region ?_
   refine L.Y Y.bin ?_
   refine L.Y Y.mv ?_
   refine AList.nil ?_
   exact ⟨k1, by omega, _, _, ⟨by omega, _, _, _, _, rfl, rfl, h⟩, IsPart.at [] [] base0 .nil (E.c (E.c (E.c (E.c (E.c .nil)))))⟩
 ·
  have hb3 := hb
  try simp only [hS, hE, ne_eq] at hb
  first | rw [if_pos hb3] at h | rw [if_neg (Bool.eq_false_iff.1 hb3)] at h | rw [if_pos hb] at h | rw [if_neg hb] at h | (simp only [hb, hT, reduceIte] at h) | skip
  refine AWp.exit ?_
  refine AWp.seq ?_
  refine AWp.region ?_
  refine L.Y Y.asg ?_
  refine AList.nil ?_
  obtain rfl := Option.some.inj h
  refine AWp.ret ?_
  exact ⟨.inr rfl, [(6, _)], _, ⟨rfl, rfl⟩, IsPart.at [] [] base0 .nil (E.c .nil)⟩

end Go.Proofs.Ytakabmokpknknaa.PFnBiordersHaveScales
