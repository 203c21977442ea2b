-- Written by a program of this session's (wip/myprint2): the functions by the kit's print, the walks by awgen.py. Lean checks it.
import Derived.Test.YtakabmokpknknaaPFnBiordersHaveScalesx0
import Derived.Test.YtakabmokpknknaaPFnBiordersHaveScalesx3
import Derived.Test.YtakabmokpknknaaPFnBiordersHaveScalesx4
namespace Go.Proofs.Ytakabmokpknknaa.PFnBiordersHaveScales
open Go.RowKit Go.Proofs.YtakabmokpknknaaW.PrintWords Go.Proofs.YtakabmokpknknaaW.PrintLast Go.Proofs.YtakabmokpknknaaW.PrintMore Go.Proofs.YtakabmokpknknaaM Go.Proofs.YtakabmokpknknaaA
attribute [local go_sem] max2_int min2_int max_two min_two max_three min_three max_four min_four   -- for this text's walks alone
set_option linter.unusedVariables false
set_option linter.unusedSimpArgs false

/-! ### impl_ScalesOf: function 14 -/
mutual
def impl_ScalesOf.j0 : Nat → Bool → Int → Int → List Int → Option (List Int × List Int × Bool)
 | 0, _, _, _, _ => none
 | k + 1, x23, x188000, x188001, x188002 => if x23 = true then (some (([] : List Int), ([] : List Int), false)) else (impl_ScalesOf.l0 k (([] : List Int)) (([] : List Int)) x188002 (x188002.length : Int) 0 x188000 x188001 x188002)
def impl_ScalesOf.l0 : Nat → List Int → List Int → List Int → Int → Int → Int → Int → List Int → Option (List Int × List Int × Bool)
 | 0, _, _, _, _, _, _, _, _ => none
 | k + 1, x5, x6, x27, x28, x29, x188000, x188001, x188002 => if x29 < x28 then (if 0 ≤ x29 then (if x29 < (x27.length : Int) then ((impl_different.f x188002).bind fun t199 => (impl_ScalesOf.l1 k x5 x6 (rd x27 x29) 0 x27 x28 x29 t199 (t199.length : Int) 0 x188000 x188001 x188002)) else (none)) else (none)) else (impl_ScalesOf.l2 k x5 x6 x188001 0 x188000 x188001 x188002)
def impl_ScalesOf.l1 : Nat → List Int → List Int → Int → Int → List Int → Int → Int → List Int → Int → Int → Int → Int → List Int → Option (List Int × List Int × Bool)
 | 0, _, _, _, _, _, _, _, _, _, _, _, _, _ => none
 | k + 1, x5, x6, x8, x9, x27, x28, x29, x35, x36, x37, x188000, x188001, x188002 => if x37 < x36 then (if 0 ≤ x37 then (if x37 < (x35.length : Int) then (if (rd x35 x37) = x8 then (impl_ScalesOf.l1 k x5 x6 x8 x9 x27 x28 x29 x35 x36 (wrap64 (x37 + 1)) x188000 x188001 x188002) else (if (Go.bits .andNot .i64 (rd x35 x37) x8) = 0 then (impl_ScalesOf.l1 k x5 x6 x8 (wrap64 (x9 + 1)) x27 x28 x29 x35 x36 (wrap64 (x37 + 1)) x188000 x188001 x188002) else (impl_ScalesOf.l1 k x5 x6 x8 x9 x27 x28 x29 x35 x36 (wrap64 (x37 + 1)) x188000 x188001 x188002))) else (none)) else (none)) else (if x5.length < 17592186044416 then (impl_ScalesOf.l0 k (x5 ++ [x9]) x6 x27 x28 (wrap64 (x29 + 1)) x188000 x188001 x188002) else (none))
def impl_ScalesOf.l2 : Nat → List Int → List Int → Int → Int → Int → Int → List Int → Option (List Int × List Int × Bool)
 | 0, _, _, _, _, _, _, _ => none
 | k + 1, x5, x6, x59, x60, x188000, x188001, x188002 => if x60 < x59 then ((slices_Max_int_int.f x5).bind fun t206 => (impl_ScalesOf.l3 k x5 x6 x60 (wrap64 (t206 + 1)) x59 x60 x5 (x5.length : Int) 0 x188000 x188001 x188002)) else (some (x5, x6, true))
def impl_ScalesOf.l3 : Nat → List Int → List Int → Int → Int → Int → Int → List Int → Int → Int → Int → Int → List Int → Option (List Int × List Int × Bool)
 | 0, _, _, _, _, _, _, _, _, _, _, _, _ => none
 | k + 1, x5, x6, x12, x13, x59, x60, x66, x67, x68, x188000, x188001, x188002 => if x68 < x67 then (if 0 ≤ x68 then (if x68 < (x66.length : Int) then ((impl_Table_marked.f x188000 x188001 x188002 x68 x12).bind fun t208 => (if t208 = true then (impl_ScalesOf.l3 k x5 x6 x12 (mn x13 (rd x66 x68)) x59 x60 x66 x67 (wrap64 (x68 + 1)) x188000 x188001 x188002) else (impl_ScalesOf.l3 k x5 x6 x12 x13 x59 x60 x66 x67 (wrap64 (x68 + 1)) x188000 x188001 x188002))) else (none)) else (none)) else (if x6.length < 17592186044416 then (impl_ScalesOf.l2 k x5 (x6 ++ [x13]) x59 (wrap64 (x60 + 1)) x188000 x188001 x188002) else (none))
end
def impl_ScalesOf.f (k : Nat) (a0_0 : Int) (a0_1 : Int) (l0_2 : List Int) : Option (List Int × List Int × Bool) := (impl_IsTable.f k a0_0 a0_1 l0_2).bind fun t188 => (if t188 = true then ((impl_Table_fourCells.f k a0_0 a0_1 l0_2).bind fun t189 => (if t189 = [] then (impl_ScalesOf.j0 k false a0_0 a0_1 l0_2) else (impl_ScalesOf.j0 k true a0_0 a0_1 l0_2))) else (impl_ScalesOf.j0 k true a0_0 a0_1 l0_2))
set_option maxRecDepth 100000 in
set_option maxHeartbeats 20000000 in
theorem impl_ScalesOf.ac (k : Nat) (a0_0 : Int) (a0_1 : Int) (l0_2 : List Int) (r1 : List Int) (r2 : List Int) (r3 : Bool) (h : impl_ScalesOf.f k a0_0 a0_1 l0_2 = some (r1, r2, r3)) :
  ACalls Try.prog 14 [.agg [.lit (.int .i64 a0_0), .lit (.int .i64 a0_1), .row 1 l0_2.length false (ints .i64 l0_2)]] [] (fun v H' => v = .tup [.own 0 r1.length, .own 1 r2.length, .lit (.bool r3)] ∧ H' = [.sl 3 1 r1.length false (ints .i64 r1), .sl 3 1 r2.length false (ints .i64 r2)]) := by
 refine ACalls.ofP [2, 3, 4] Try.func14 rfl (by exact Nat.le_of_ble_eq_true rfl) rfl (by decide) ?_
 simp only [Try.ntmps14, env0, impl_ScalesOf.f] at h ⊢
 refine AWp.seq ?_
 refine AWp.region ?_
 refine L.M M.bx ?_
 refine L.Y Y.asg ?_
 refine L.Y Y.asg ?_
 refine L.Y Y.asg ?_
 refine AList.nil ?_
 refine AWp.seq ?_
 refine AWp.seq ?_
 refine AWp.region ?_
 refine L.S (S.ldN Try.underlying26 Y26) ?_
 replace h := Option.bind_eq_some_iff.1 h
 obtain ⟨t188, hc1, h⟩ := h
 refine L.C (C.callE (l := true) [] Try.func24 (impl_IsTable.ac _ _ _ _ _ hc1) .nil ?_)
 refine L.Y Y.nt ?_
 refine L.Y Y.mv ?_
 refine L.Gc (fun hb => ?_) (fun hb => ?_)
 ·
  have hb2 := hb
  try simp only [hS, hE, ne_eq] at hb
  first | rw [if_pos hb2] at h | rw [if_neg (Bool.eq_false_iff.1 hb2)] at h | rw [if_pos hb] at h | rw [if_neg hb] at h | (simp only [hb, hT, reduceIte] at h) | skip
  refine L.Gn hb2 ?_
  refine L.Gn hb2 ?_
  refine L.Gn hb2 ?_
  refine L.Y (Y.pk (c := true) hb2) ?_
  refine AList.nil ?_
  rcases k with _ | k
  ·
   exact absurd h (by simp [impl_ScalesOf.j0])
  simp only [impl_ScalesOf.j0] at h
  refine W.cond (fun hb => ?_) (fun hb => ?_)
  rotate_left
  ·
   first | exact Bool.false_ne_true ((Eq.symm (by assumption)).trans hb) | exact Bool.false_ne_true (hb.symm.trans (by assumption)) | exact DD hb
  have hb3 := hb
  try (first | rw [if_pos hb3] at h | rw [if_neg (Bool.eq_false_iff.1 hb3)] at h | rw [if_pos hb] at h | rw [if_neg hb] at h | (simp only [hb, hT, reduceIte] at h) | skip)
  refine AWp.seq ?_
  refine W.kp [0, 1, 2, 3, 4, 23] ?_
  refine AWp.region ?_
  refine L.Y Y.asg ?_
  refine L.Y Y.asg ?_
  refine L.Y Y.asg ?_
  refine AList.nil ?_
  simp only [Option.some.injEq, Prod.mk.injEq] at h
  obtain ⟨rfl, rfl, rfl⟩ := h
  refine AWp.ret ?_
  exact ⟨.inr rfl, [(2, _), (3, _), (4, _)], _, ⟨rfl, rfl⟩, IsPart.at [(3, 1), (3, 1)] [1, 2] base0 (H.c (H.c .nil)) (E.c (E.c (E.c .nil)))⟩
 ·
  have hb2 := hb
  try simp only [hS, hE, ne_eq] at hb
  first | rw [if_pos hb2] at h | rw [if_neg (Bool.eq_false_iff.1 hb2)] at h | rw [if_pos hb] at h | rw [if_neg hb] at h | (simp only [hb, hT, reduceIte] at h) | skip
  refine L.Gs hb2 (S.ldN Try.underlying26 Y26) ?_
  replace h := Option.bind_eq_some_iff.1 h
  obtain ⟨t189, hc4, h⟩ := h
  rcases Classical.em (t189 = []) with hq | hq
  ·
   have hq0 : t189.length = 0 := by rw [hq]; rfl
   have hq1 : (ints .i64 t189) = [] := by rw [hq]; rfl
   refine L.GC hb2 (C.callE (l := true) [] Try.func44 ((impl_Table_fourCells.acq _ _ _ _ _ hc4).conseq (fun _ _ q => q.elim (fun z => z.2) (fun z => absurd hq z.1))) .nil ?_)
   refine L.Gy hb2 (Y.nn Try.underlying22) ?_
   rw [if_pos hq] at h
   refine L.Y (Y.pk (c := false) hb2) ?_
   refine AList.nil ?_
   rcases k with _ | k
   ·
    exact absurd h (by simp [impl_ScalesOf.j0])
   simp only [impl_ScalesOf.j0] at h
   refine W.cond (fun hb => ?_) (fun hb => ?_)
   ·
    first | exact Bool.false_ne_true ((Eq.symm (by assumption)).trans hb) | exact Bool.false_ne_true (hb.symm.trans (by assumption)) | exact DD hb
   have hb5 := hb
   try (first | rw [if_pos hb5] at h | rw [if_neg (Bool.eq_false_iff.1 hb5)] at h | rw [if_pos hb] at h | rw [if_neg hb] at h | (simp only [hb, hT, reduceIte] at h) | skip)
   repeat (first | (rw [iN] at h; obtain ⟨_, h⟩ := h) | (rw [iP] at h; obtain ⟨_, h⟩ := h) | (simp only [bS] at h))
   refine AWp.skip ?_
   refine AWp.seq ?_
   refine W.kp [0, 1, 2, 3, 4, 23] ?_
   refine AWp.region ?_
   refine L.M (M.bs Try.underlying22 Y3) ?_
   refine L.M (M.bs Try.underlying22 Y3) ?_
   refine L.Y Y.asg ?_
   refine L.Y Y.asg ?_
   refine AList.nil ?_
   refine AWp.seq ?_
   refine AWp.seq ?_
   refine AWp.region ?_
   refine L.Y (Y.fa (off := 2) Try.underlying26 Y22) ?_
   refine L.S (S.ld Try.underlying22) ?_
   refine L.Y (Y.ln Try.underlying22) ?_
   refine L.Y Y.mv ?_
   refine AList.nil ?_
   refine AWp.block ?_
   refine AWp.loopI (fun kk e H => kk ≤ k ∧ ∃ (x5 : List Int) (x6 : List Int) (x28 : Int) (x29 : Int) (x188000 : Int) (x188001 : Int), e = [(1, .ptr 0 0), (5, .own 1 x5.length), (6, .own 2 x6.length), (27, .row 1 l0_2.length false (ints .i64 l0_2)), (28, .lit (.int .i64 x28)), (29, .lit (.int .i64 x29))] ∧ H = [.bx 26 [.lit (.int .i64 x188000), .lit (.int .i64 x188001), .row 1 l0_2.length false (ints .i64 l0_2)], .sl 3 1 x5.length true (ints .i64 x5), .sl 3 1 x6.length true (ints .i64 x6)] ∧ impl_ScalesOf.l0 kk x5 x6 l0_2 x28 x29 x188000 x188001 l0_2 = some (r1, r2, r3)) (k := k)
    ⟨_, _, ⟨Nat.le_refl _, _, _, _, _, _, _, rfl, rfl, h⟩, IsPart.at [] [0, 1, 2] base0 (H.c (H.c (H.c .nil))) (E.c (E.c (E.c (E.c (E.c (E.c .nil))))))⟩ ?_
   clear h
   rintro k6 e H ⟨hk7, x5, x6, x28, x29, x188000, x188001, rfl, rfl, h⟩
   cases k6 with
   | zero => exact absurd h (by simp [impl_ScalesOf.l0])
   | succ k6 =>
   simp only [impl_ScalesOf.l0] at h
   refine AWp.seq ?_
   refine AWp.region ?_
   refine L.Y Y.bin ?_
   refine AList.nil ?_
   refine AWp.seq ?_
   refine W.cond (fun hb => ?_) (fun hb => ?_)
   ·
    have hb8 := hb
    try simp only [hS, hE, ne_eq] at hb
    first | rw [if_pos hb8] at h | rw [if_neg (Bool.eq_false_iff.1 hb8)] at h | rw [if_pos hb] at h | rw [if_neg hb] at h | (simp only [hb, hT, reduceIte] at h) | skip
    repeat (first | (rw [iN] at h; obtain ⟨_, h⟩ := h) | (rw [iP] at h; obtain ⟨_, h⟩ := h) | (simp only [bS] at h))
    refine AWp.skip ?_
    refine AWp.seq ?_
    refine AWp.block ?_
    refine AWp.seq ?_
    refine AWp.region ?_
    refine L.Y (Y.ixr Try.underlying22 Y3) ?_
    refine L.S (S.ld Try.underlying3) ?_
    refine L.Y Y.asg ?_
    refine AList.nil ?_
    refine AWp.seq ?_
    refine AWp.region ?_
    refine L.Y Y.asg ?_
    refine AList.nil ?_
    refine AWp.seq ?_
    refine AWp.seq ?_
    refine AWp.region ?_
    refine L.Y (Y.fa (off := 2) Try.underlying26 Y22) ?_
    refine L.S (S.ld Try.underlying22) ?_
    replace h := Option.bind_eq_some_iff.1 h
    obtain ⟨t199, hc9, h⟩ := h
    refine L.C (C.callE (l := true) [] Try.func45 (impl_different.ac _ _ hc9) .nil ?_)
    refine L.Y (Y.ln Try.underlying22) ?_
    refine L.Y Y.mv ?_
    refine AList.nil ?_
    refine AWp.block ?_
    refine AWp.loopI (fun kk e H => kk ≤ k6 ∧ ∃ (x5 : List Int) (x6 : List Int) (x8 : Int) (x9 : Int) (x28 : Int) (x29 : Int) (x35 : List Int) (x36 : Int) (x37 : Int) (x188000 : Int) (x188001 : Int), e = [(1, .ptr 0 0), (5, .own 1 x5.length), (6, .own 2 x6.length), (8, .lit (.int .i64 x8)), (9, .lit (.int .i64 x9)), (27, .row 1 l0_2.length false (ints .i64 l0_2)), (28, .lit (.int .i64 x28)), (29, .lit (.int .i64 x29)), (35, .own 3 x35.length), (36, .lit (.int .i64 x36)), (37, .lit (.int .i64 x37))] ∧ H = [.bx 26 [.lit (.int .i64 x188000), .lit (.int .i64 x188001), .row 1 l0_2.length false (ints .i64 l0_2)], .sl 3 1 x5.length true (ints .i64 x5), .sl 3 1 x6.length true (ints .i64 x6), .sl 3 1 x35.length false (ints .i64 x35)] ∧ impl_ScalesOf.l1 kk x5 x6 x8 x9 l0_2 x28 x29 x35 x36 x37 x188000 x188001 l0_2 = some (r1, r2, r3)) (k := k6)
     ⟨_, _, ⟨Nat.le_refl _, _, _, _, _, _, _, _, _, _, _, _, rfl, rfl, h⟩, IsPart.at [] [0, 1, 2, 3] base0 (H.c (H.c (H.c (H.c .nil)))) (E.c (E.c (E.c (E.c (E.c (E.c (E.c (E.c (E.c (E.c (E.c .nil)))))))))))⟩ ?_
    clear h
    rintro k10 e H ⟨hk11, x5, x6, x8, x9, x28, x29, x35, x36, x37, x188000, x188001, rfl, rfl, h⟩
    cases k10 with
    | zero => exact absurd h (by simp [impl_ScalesOf.l1])
    | succ k10 =>
    simp only [impl_ScalesOf.l1] at h
    refine AWp.seq ?_
    refine AWp.region ?_
    refine L.Y Y.bin ?_
    refine AList.nil ?_
    refine AWp.seq ?_
    refine W.cond (fun hb => ?_) (fun hb => ?_)
    ·
     have hb12 := hb
     try simp only [hS, hE, ne_eq] at hb
     first | rw [if_pos hb12] at h | rw [if_neg (Bool.eq_false_iff.1 hb12)] at h | rw [if_pos hb] at h | rw [if_neg hb] at h | (simp only [hb, hT, reduceIte] at h) | skip
     repeat (first | (rw [iN] at h; obtain ⟨_, h⟩ := h) | (rw [iP] at h; obtain ⟨_, h⟩ := h) | (simp only [bS] at h))
     refine AWp.skip ?_
     refine AWp.seq ?_
     refine AWp.block ?_
     refine AWp.seq ?_
     refine AWp.region ?_
     refine L.Y (Y.ixo Try.underlying22 Y3) ?_
     refine L.S (S.ld Try.underlying3) ?_
     refine L.Y Y.asg ?_
     refine AList.nil ?_
     refine AWp.seq ?_
     refine AWp.region ?_
     refine L.Y Y.mv ?_
     refine L.Y Y.mv ?_
     refine L.Y Y.bin ?_
     refine L.Y Y.mv ?_
     refine L.Gc (fun hb => ?_) (fun hb => ?_)
     ·
      have hb13 := hb
      try simp only [hS, hE, ne_eq] at hb
      first | rw [if_pos hb13] at h | rw [if_neg (Bool.eq_false_iff.1 hb13)] at h | rw [if_pos hb] at h | rw [if_neg hb] at h | (simp only [hb, hT, reduceIte] at h) | skip
      refine L.Gy hb13 Y.mv ?_
      refine L.Gy hb13 Y.mv ?_
      refine L.Gy hb13 Y.bin ?_
      refine L.Gy hb13 Y.bin ?_
      refine L.Y (Y.pk (c := true) hb13) ?_
      refine AList.nil ?_
      refine W.cond (fun hb => ?_) (fun hb => ?_)
      ·
       have hb14 := hb
       try simp only [hS, hE, ne_eq] at hb
       first | rw [if_pos hb14] at h | rw [if_neg (Bool.eq_false_iff.1 hb14)] at h | rw [if_pos hb] at h | rw [if_neg hb] at h | (simp only [hb, hT, reduceIte] at h) | skip
       refine W.kp [1, 5, 6, 8, 9, 11, 27, 28, 29, 35, 36, 37, 38, 49] ?_
       refine AWp.region ?_
       refine L.Y Y.mv ?_
       refine L.Y Y.bin ?_
       refine L.Y Y.asg ?_
       refine AList.nil ?_
       refine AWp.region ?_
       refine L.Y Y.bin ?_
       refine L.Y Y.mv ?_
       refine AList.nil ?_
       exact ⟨k10, by omega, _, _, ⟨by omega, _, _, _, _, _, _, _, _, _, _, _, rfl, rfl, h⟩, IsPart.at [] [0, 1, 2, 3] base0 (H.c (H.c (H.c (H.c .nil)))) (E.c (E.c (E.c (E.c (E.c (E.c (E.c (E.c (E.c (E.c (E.c .nil)))))))))))⟩
      ·
       have hb14 := hb
       try simp only [hS, hE, ne_eq] at hb
       first | rw [if_pos hb14] at h | rw [if_neg (Bool.eq_false_iff.1 hb14)] at h | rw [if_pos hb] at h | rw [if_neg hb] at h | (simp only [hb, hT, reduceIte] at h) | skip
       refine AWp.skip ?_
       refine W.kp [1, 5, 6, 8, 9, 11, 27, 28, 29, 35, 36, 37, 38, 49] ?_
       refine AWp.region ?_
       refine L.Y Y.bin ?_
       refine L.Y Y.mv ?_
       refine AList.nil ?_
       exact ⟨k10, by omega, _, _, ⟨by omega, _, _, _, _, _, _, _, _, _, _, _, rfl, rfl, h⟩, IsPart.at [] [0, 1, 2, 3] base0 (H.c (H.c (H.c (H.c .nil)))) (E.c (E.c (E.c (E.c (E.c (E.c (E.c (E.c (E.c (E.c (E.c .nil)))))))))))⟩
     ·
      have hb13 := hb
      try simp only [hS, hE, ne_eq] at hb
      first | rw [if_pos hb13] at h | rw [if_neg (Bool.eq_false_iff.1 hb13)] at h | rw [if_pos hb] at h | rw [if_neg hb] at h | (simp only [hb, hT, reduceIte] at h) | skip
      refine L.Gn hb13 ?_
      refine L.Gn hb13 ?_
      refine L.Gn hb13 ?_
      refine L.Gn hb13 ?_
      refine L.Y (Y.pk (c := false) hb13) ?_
      refine AList.nil ?_
      refine W.cond (fun hb => ?_) (fun hb => ?_)
      ·
       first | exact Bool.false_ne_true ((Eq.symm (by assumption)).trans hb) | exact Bool.false_ne_true (hb.symm.trans (by assumption)) | exact DD hb
      have hb15 := hb
      refine AWp.skip ?_
      refine W.kp [1, 5, 6, 8, 9, 11, 27, 28, 29, 35, 36, 37, 38, 49] ?_
      refine AWp.region ?_
      refine L.Y Y.bin ?_
      refine L.Y Y.mv ?_
      refine AList.nil ?_
      exact ⟨k10, by omega, _, _, ⟨by omega, _, _, _, _, _, _, _, _, _, _, _, rfl, rfl, h⟩, IsPart.at [] [0, 1, 2, 3] base0 (H.c (H.c (H.c (H.c .nil)))) (E.c (E.c (E.c (E.c (E.c (E.c (E.c (E.c (E.c (E.c (E.c .nil)))))))))))⟩
    ·
     have hb12 := hb
     try simp only [hS, hE, ne_eq] at hb
     first | rw [if_pos hb12] at h | rw [if_neg (Bool.eq_false_iff.1 hb12)] at h | rw [if_pos hb] at h | rw [if_neg hb] at h | (simp only [hb, hT, reduceIte] at h) | skip
     repeat (first | (rw [iN] at h; obtain ⟨_, h⟩ := h) | (rw [iP] at h; obtain ⟨_, h⟩ := h) | (simp only [bS] at h))
     refine AWp.exit ?_
     refine AWp.region ?_
     refine L.Y Y.mv ?_
     refine L.Y Y.mv ?_
     refine L.M (M.bs Try.underlying22 Y3) ?_
     refine L.S (S.ap (nn' := true) Try.underlying22 Y3) ?_
     refine L.Y Y.asg ?_
     refine AList.nil ?_
     refine W.kp [1, 5, 6, 8, 9, 27, 28, 29, 35, 36, 37, 38] ?_
     refine AWp.region ?_
     refine L.Y Y.bin ?_
     refine L.Y Y.mv ?_
     refine AList.nil ?_
     exact ⟨k10, by omega, _, _, ⟨by omega, _, _, _, _, _, _, rfl, rfl, h⟩, IsPart.at [] [0, 1, 2] base0 (H.c (H.c (H.c .nil))) (E.c (E.c (E.c (E.c (E.c (E.c .nil))))))⟩
   ·
    have hb8 := hb
    try simp only [hS, hE, ne_eq] at hb
    first | rw [if_pos hb8] at h | rw [if_neg (Bool.eq_false_iff.1 hb8)] at h | rw [if_pos hb] at h | rw [if_neg hb] at h | (simp only [hb, hT, reduceIte] at h) | skip
    refine AWp.exit ?_
    refine AWp.seq ?_
    refine AWp.seq ?_
    refine AWp.region ?_
    refine L.Y (Y.fa (off := 1) Try.underlying26 Y3) ?_
    refine L.S (S.ld Try.underlying3) ?_
    refine L.Y Y.mv ?_
    refine AList.nil ?_
    refine AWp.block ?_
    refine AWp.loopI (fun kk e H => kk ≤ k6 ∧ ∃ (x5 : List Int) (x6 : List Int) (x59 : Int) (x60 : Int) (x188000 : Int) (x188001 : Int), e = [(1, .ptr 0 0), (5, .own 1 x5.length), (6, .own 2 x6.length), (59, .lit (.int .i64 x59)), (60, .lit (.int .i64 x60))] ∧ H = [.bx 26 [.lit (.int .i64 x188000), .lit (.int .i64 x188001), .row 1 l0_2.length false (ints .i64 l0_2)], .sl 3 1 x5.length true (ints .i64 x5), .sl 3 1 x6.length true (ints .i64 x6)] ∧ impl_ScalesOf.l2 kk x5 x6 x59 x60 x188000 x188001 l0_2 = some (r1, r2, r3)) (k := k6)
     ⟨_, _, ⟨Nat.le_refl _, _, _, _, _, _, _, rfl, rfl, h⟩, IsPart.at [] [0, 1, 2] base0 (H.c (H.c (H.c .nil))) (E.c (E.c (E.c (E.c (E.c .nil)))))⟩ ?_
    clear h
    rintro k16 e H ⟨hk17, x5, x6, x59, x60, x188000, x188001, rfl, rfl, h⟩
    cases k16 with
    | zero => exact absurd h (by simp [impl_ScalesOf.l2])
    | succ k16 =>
    simp only [impl_ScalesOf.l2] at h
    refine AWp.seq ?_
    refine AWp.region ?_
    refine L.Y Y.bin ?_
    refine AList.nil ?_
    refine AWp.seq ?_
    refine W.cond (fun hb => ?_) (fun hb => ?_)
    ·
     have hb18 := hb
     try simp only [hS, hE, ne_eq] at hb
     first | rw [if_pos hb18] at h | rw [if_neg (Bool.eq_false_iff.1 hb18)] at h | rw [if_pos hb] at h | rw [if_neg hb] at h | (simp only [hb, hT, reduceIte] at h) | skip
     refine AWp.skip ?_
     refine AWp.seq ?_
     refine AWp.block ?_
     refine AWp.seq ?_
     refine AWp.region ?_
     refine L.Y Y.mv ?_
     refine L.Y Y.asg ?_
     refine AList.nil ?_
     refine AWp.seq ?_
     refine AWp.region ?_
     refine L.Y Y.mv ?_
     replace h := Option.bind_eq_some_iff.1 h
     obtain ⟨t206, hc19, h⟩ := h
     refine L.C (C.callE (l := true) [] Try.func46 (slices_Max_int_int.ac _ _ hc19) .nil ?_)
     refine L.Y Y.bin ?_
     refine L.Y Y.asg ?_
     refine AList.nil ?_
     refine AWp.seq ?_
     refine AWp.seq ?_
     refine W.kp [1, 5, 6, 12, 13, 59, 60, 61] ?_
     refine AWp.region ?_
     refine L.Y Y.mv ?_
     refine L.Y (Y.ln Try.underlying22) ?_
     refine L.Y Y.mv ?_
     refine AList.nil ?_
     refine AWp.block ?_
     refine AWp.loopI (fun kk e H => kk ≤ k16 ∧ ∃ (x66 : List Int) (x6 : List Int) (x12 : Int) (x13 : Int) (x59 : Int) (x60 : Int) (x67 : Int) (x68 : Int) (x188000 : Int) (x188001 : Int), e = [(1, .ptr 0 0), (5, .own 1 x66.length), (6, .own 2 x6.length), (12, .lit (.int .i64 x12)), (13, .lit (.int .i64 x13)), (59, .lit (.int .i64 x59)), (60, .lit (.int .i64 x60)), (66, .own 1 x66.length), (67, .lit (.int .i64 x67)), (68, .lit (.int .i64 x68))] ∧ H = [.bx 26 [.lit (.int .i64 x188000), .lit (.int .i64 x188001), .row 1 l0_2.length false (ints .i64 l0_2)], .sl 3 1 x66.length true (ints .i64 x66), .sl 3 1 x6.length true (ints .i64 x6)] ∧ impl_ScalesOf.l3 kk x66 x6 x12 x13 x59 x60 x66 x67 x68 x188000 x188001 l0_2 = some (r1, r2, r3)) (k := k16)
      ⟨_, _, ⟨Nat.le_refl _, _, _, _, _, _, _, _, _, _, _, rfl, rfl, h⟩, IsPart.at [] [0, 1, 2] base0 (H.c (H.c (H.c .nil))) (E.c (E.c (E.c (E.c (E.c (E.c (E.c (E.c (E.c (E.c .nil))))))))))⟩ ?_
     clear h
     rintro k20 e H ⟨hk21, x66, x6, x12, x13, x59, x60, x67, x68, x188000, x188001, rfl, rfl, h⟩
     cases k20 with
     | zero => exact absurd h (by simp [impl_ScalesOf.l3])
     | succ k20 =>
     simp only [impl_ScalesOf.l3] at h
     refine AWp.seq ?_
     refine AWp.region ?_
     refine L.Y Y.bin ?_
     refine AList.nil ?_
     refine AWp.seq ?_
     refine W.cond (fun hb => ?_) (fun hb => ?_)
     ·
      have hb22 := hb
      try simp only [hS, hE, ne_eq] at hb
      first | rw [if_pos hb22] at h | rw [if_neg (Bool.eq_false_iff.1 hb22)] at h | rw [if_pos hb] at h | rw [if_neg hb] at h | (simp only [hb, hT, reduceIte] at h) | skip
      repeat (first | (rw [iN] at h; obtain ⟨_, h⟩ := h) | (rw [iP] at h; obtain ⟨_, h⟩ := h) | (simp only [bS] at h))
      refine AWp.skip ?_
      refine AWp.seq ?_
      refine AWp.block ?_
      refine AWp.seq ?_
      refine AWp.region ?_
      refine L.Y Y.mv ?_
      refine L.Y (Y.ixo Try.underlying22 Y3) ?_
      refine L.S (S.ld Try.underlying3) ?_
      refine L.Y Y.asg ?_
      refine L.Y Y.asg ?_
      refine AList.nil ?_
      refine AWp.seq ?_
      refine AWp.region ?_
      refine L.S (S.ldN Try.underlying26 Y26) ?_
      refine L.Y Y.mv ?_
      refine L.Y Y.mv ?_
      replace h := Option.bind_eq_some_iff.1 h
      obtain ⟨t208, hc23, h⟩ := h
      refine L.C (C.callE (l := true) [] Try.func38 (impl_Table_marked.ac _ _ _ _ _ _ hc23) .nil ?_)
      refine AList.nil ?_
      refine W.cond (fun hb => ?_) (fun hb => ?_)
      ·
       have hb24 := hb
       try simp only [hS, hE, ne_eq] at hb
       first | rw [if_pos hb24] at h | rw [if_neg (Bool.eq_false_iff.1 hb24)] at h | rw [if_pos hb] at h | rw [if_neg hb] at h | (simp only [hb, hT, reduceIte] at h) | skip
       refine W.kp [1, 5, 6, 12, 13, 14, 15, 59, 60, 66, 67, 68, 69, 76] ?_
       refine AWp.region ?_
       refine L.Y Y.mv ?_
       refine L.Y Y.mv ?_
       refine L.Y (Y.min2) ?_
       refine L.Y Y.asg ?_
       refine AList.nil ?_
       refine AWp.region ?_
       refine L.Y Y.bin ?_
       refine L.Y Y.mv ?_
       refine AList.nil ?_
       exact ⟨k20, by omega, _, _, ⟨by omega, _, _, _, _, _, _, _, _, _, _, rfl, rfl, h⟩, IsPart.at [] [0, 1, 2] base0 (H.c (H.c (H.c .nil))) (E.c (E.c (E.c (E.c (E.c (E.c (E.c (E.c (E.c (E.c .nil))))))))))⟩
      ·
       have hb24 := hb
       try simp only [hS, hE, ne_eq] at hb
       first | rw [if_pos hb24] at h | rw [if_neg (Bool.eq_false_iff.1 hb24)] at h | rw [if_pos hb] at h | rw [if_neg hb] at h | (simp only [hb, hT, reduceIte] at h) | skip
       refine AWp.skip ?_
       refine W.kp [1, 5, 6, 12, 13, 14, 15, 59, 60, 66, 67, 68, 69, 76] ?_
       refine AWp.region ?_
       refine L.Y Y.bin ?_
       refine L.Y Y.mv ?_
       refine AList.nil ?_
       exact ⟨k20, by omega, _, _, ⟨by omega, _, _, _, _, _, _, _, _, _, _, rfl, rfl, h⟩, IsPart.at [] [0, 1, 2] base0 (H.c (H.c (H.c .nil))) (E.c (E.c (E.c (E.c (E.c (E.c (E.c (E.c (E.c (E.c .nil))))))))))⟩
     ·
      have hb22 := hb
      try simp only [hS, hE, ne_eq] at hb
      first | rw [if_pos hb22] at h | rw [if_neg (Bool.eq_false_iff.1 hb22)] at h | rw [if_pos hb] at h | rw [if_neg hb] at h | (simp only [hb, hT, reduceIte] at h) | skip
      repeat (first | (rw [iN] at h; obtain ⟨_, h⟩ := h) | (rw [iP] at h; obtain ⟨_, h⟩ := h) | (simp only [bS] at h))
      refine AWp.exit ?_
      refine AWp.region ?_
      refine L.Y Y.mv ?_
      refine L.Y Y.mv ?_
      refine L.M (M.bs Try.underlying22 Y3) ?_
      refine L.S (S.ap (nn' := true) Try.underlying22 Y3) ?_
      refine L.Y Y.asg ?_
      refine AList.nil ?_
      refine W.kp [1, 5, 6, 12, 13, 59, 60, 66, 67, 68, 69] ?_
      refine AWp.region ?_
      refine L.Y Y.bin ?_
      refine L.Y Y.mv ?_
      refine AList.nil ?_
      exact ⟨k20, by omega, _, _, ⟨by omega, _, _, _, _, _, _, rfl, rfl, h⟩, IsPart.at [] [0, 1, 2] base0 (H.c (H.c (H.c .nil))) (E.c (E.c (E.c (E.c (E.c .nil)))))⟩
    ·
     have hb18 := hb
     try simp only [hS, hE, ne_eq] at hb
     first | rw [if_pos hb18] at h | rw [if_neg (Bool.eq_false_iff.1 hb18)] at h | rw [if_pos hb] at h | rw [if_neg hb] at h | (simp only [hb, hT, reduceIte] at h) | skip
     refine AWp.exit ?_
     refine AWp.seq ?_
     refine AWp.region ?_
     refine L.Y Y.mv ?_
     refine L.Y Y.mv ?_
     refine L.Y Y.asg ?_
     refine L.Y Y.asg ?_
     refine L.Y Y.asg ?_
     refine AList.nil ?_
     simp only [Option.some.injEq, Prod.mk.injEq] at h
     obtain ⟨rfl, rfl, rfl⟩ := h
     refine AWp.ret ?_
     exact ⟨.inr rfl, [(2, _), (3, _), (4, _)], _, ⟨rfl, rfl⟩, IsPart.at [] [1, 2] base0 (H.c (H.c .nil)) (E.c (E.c (E.c .nil)))⟩
  ·
   skip
   refine L.GC hb2 (C.callE (l := true) [] Try.func44 ((impl_Table_fourCells.acq _ _ _ _ _ hc4).conseq (fun _ _ q => q.elim (fun z => absurd z.1 hq) (fun z => z.2))) .nil ?_)
   refine L.Gy hb2 (Y.nn Try.underlying22) ?_
   rw [if_neg hq] at h
   refine L.Y (Y.pk (c := false) hb2) ?_
   refine AList.nil ?_
   rcases k with _ | k
   ·
    exact absurd h (by simp [impl_ScalesOf.j0])
   simp only [impl_ScalesOf.j0] at h
   refine W.cond (fun hb => ?_) (fun hb => ?_)
   rotate_left
   ·
    first | exact Bool.false_ne_true ((Eq.symm (by assumption)).trans hb) | exact Bool.false_ne_true (hb.symm.trans (by assumption)) | exact DD hb
   have hb25 := hb
   try (first | rw [if_pos hb25] at h | rw [if_neg (Bool.eq_false_iff.1 hb25)] at h | rw [if_pos hb] at h | rw [if_neg hb] at h | (simp only [hb, hT, reduceIte] at h) | skip)
   refine AWp.seq ?_
   refine W.kp [0, 1, 2, 3, 4, 23] ?_
   refine AWp.region ?_
   refine L.Y Y.asg ?_
   refine L.Y Y.asg ?_
   refine L.Y Y.asg ?_
   refine AList.nil ?_
   simp only [Option.some.injEq, Prod.mk.injEq] at h
   obtain ⟨rfl, rfl, rfl⟩ := h
   refine AWp.ret ?_
   exact ⟨.inr rfl, [(2, _), (3, _), (4, _)], _, ⟨rfl, rfl⟩, IsPart.at [(3, 1), (3, 1)] [2, 3] base0 (H.c (H.c .nil)) (E.c (E.c (E.c .nil)))⟩

/-! ### laws_big: function 18 -/
def laws_big.f (l0 : List Int) (l1 : List Int) : Option (Bool) := if (l0.length : Int) > 1048576 then (some true) else (some (decide ((l1.length : Int) > (wrap64 (1048576 - (l0.length : Int))))))
set_option maxRecDepth 100000 in
set_option maxHeartbeats 20000000 in
theorem laws_big.ac (l0 : List Int) (l1 : List Int) (r : Bool) (h : laws_big.f l0 l1 = some r) :
  ACalls Try.prog 18 [.row 1 l0.length false (ints .u8 l0), .row 1 l1.length false (ints .u8 l1)] [] (fun v H' => v = .lit (.bool r) ∧ H' = []) := by
 refine ACalls.ofP [4] Try.func18 rfl (by exact Nat.le_of_ble_eq_true rfl) rfl (by decide) ?_
 simp only [Try.ntmps18, env0, laws_big.f] at h ⊢
 refine AWp.seq ?_
 refine AWp.region ?_
 refine L.Y Y.asg ?_
 refine AList.nil ?_
 refine AWp.seq ?_
 refine AWp.region ?_
 refine L.Y Y.mv ?_
 refine L.Y (Y.ln Try.underlying38) ?_
 refine L.Y Y.bin ?_
 refine L.Y Y.mv ?_
 refine L.Gc (fun hb => ?_) (fun hb => ?_)
 ·
  have hb1 := hb
  try simp only [hS, hE, ne_eq] at hb
  first | rw [if_pos hb1] at h | rw [if_neg (Bool.eq_false_iff.1 hb1)] at h | rw [if_pos hb] at h | rw [if_neg hb] at h | (simp only [hb, hT, reduceIte] at h) | skip
  refine L.Gn hb1 ?_
  refine L.Gn hb1 ?_
  refine L.Gn hb1 ?_
  refine L.Gn hb1 ?_
  refine L.Gn hb1 ?_
  refine L.Gn hb1 ?_
  refine L.Y (Y.pk (c := true) hb1) ?_
  refine L.Y Y.asg ?_
  refine AList.nil ?_
  obtain rfl := Option.some.inj h
  refine AWp.ret ?_
  exact ⟨.inr rfl, [(4, _)], _, ⟨rfl, rfl⟩, IsPart.at [] [] base0 .nil (E.c .nil)⟩
 ·
  have hb1 := hb
  try simp only [hS, hE, ne_eq] at hb
  first | rw [if_pos hb1] at h | rw [if_neg (Bool.eq_false_iff.1 hb1)] at h | rw [if_pos hb] at h | rw [if_neg hb] at h | (simp only [hb, hT, reduceIte] at h) | skip
  refine L.Gy hb1 Y.mv ?_
  refine L.Gy hb1 (Y.ln Try.underlying38) ?_
  refine L.Gy hb1 Y.mv ?_
  refine L.Gy hb1 (Y.ln Try.underlying38) ?_
  refine L.Gy hb1 Y.bin ?_
  refine L.Gy hb1 Y.bin ?_
  refine L.Y (Y.pk (c := false) hb1) ?_
  refine L.Y Y.asg ?_
  refine AList.nil ?_
  obtain rfl := Option.some.inj h
  refine AWp.ret ?_
  exact ⟨.inr rfl, [(4, _)], _, ⟨rfl, rfl⟩, IsPart.at [] [] base0 .nil (E.c .nil)⟩

end Go.Proofs.Ytakabmokpknknaa.PFnBiordersHaveScales
