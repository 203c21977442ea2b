-- Written by a program of this session's (wip/myprint2): the functions by the kit's print, the walks by awgen.py. Lean checks it.
import Derived.Test.YtakabmokpknknaaPFnBiordersHaveScalesx0
import Derived.Test.YtakabmokpknknaaPFnBiordersHaveScalesx1
namespace Go.Proofs.Ytakabmokpknknaa.PFnBiordersHaveScales
open Go.RowKit Go.Proofs.YtakabmokpknknaaW.PrintWords Go.Proofs.YtakabmokpknknaaW.PrintLast Go.Proofs.YtakabmokpknknaaW.PrintMore Go.Proofs.YtakabmokpknknaaM Go.Proofs.YtakabmokpknknaaA
attribute [local go_sem] max2_int min2_int max_two min_two max_three min_three max_four min_four   -- for this text's walks alone
set_option linter.unusedVariables false
set_option linter.unusedSimpArgs false

/-! ### spec_TableOfScales: function 29 -/
mutual
def spec_TableOfScales.j0 : Nat → List Int → List Int → Bool → Option (Int × Int × List Int × Bool)
 | 0, _, _, _ => none
 | k + 1, x0, x1, x31 => if x31 = true then (some (0, 0, ([] : List Int), false)) else (spec_TableOfScales.l0 k x1 x0 (x0.length : Int) 0 (x0.length : Int) (x1.length : Int) ([] : List Int))
def spec_TableOfScales.l0 : Nat → List Int → List Int → Int → Int → Int → Int → List Int → Option (Int × Int × List Int × Bool)
 | 0, _, _, _, _, _, _, _ => none
 | k + 1, x1, x38, x39, x40, x218000, x218001, x218002 => if x40 < x39 then (if 0 ≤ x40 then (if x40 < (x38.length : Int) then (spec_TableOfScales.l1 k x1 (rd x38 x40) 0 x38 x39 x40 x1 (x1.length : Int) 0 x218000 x218001 x218002) else (none)) else (none)) else (some (x218000, x218001, x218002, true))
def spec_TableOfScales.l1 : Nat → List Int → Int → Int → List Int → Int → Int → List Int → Int → Int → Int → Int → List Int → Option (Int × Int × List Int × Bool)
 | 0, _, _, _, _, _, _, _, _, _, _, _, _ => none
 | k + 1, x1, x8, x9, x38, x39, x40, x44, x45, x46, x218000, x218001, x218002 => if x46 < x45 then (if 0 ≤ x46 then (if x46 < (x44.length : Int) then (if x8 ≥ (rd x44 x46) then (spec_TableOfScales.l1 k x1 x8 (Go.bits .or .i64 x9 (shl .i64 1 x46)) x38 x39 x40 x44 x45 (wrap64 (x46 + 1)) x218000 x218001 x218002) else (spec_TableOfScales.l1 k x1 x8 x9 x38 x39 x40 x44 x45 (wrap64 (x46 + 1)) x218000 x218001 x218002)) else (none)) else (none)) else (if x218002.length < 17592186044416 then (spec_TableOfScales.l0 k x1 x38 x39 (wrap64 (x40 + 1)) x218000 x218001 (x218002 ++ [x9])) else (none))
end
def spec_TableOfScales.f (k : Nat) (l0 : List Int) (l1 : List Int) : Option (Int × Int × List Int × Bool) := (spec_l1In.f (l0.length : Int) 1 6).bind fun t213 => (if t213 = true then ((spec_l1In.f (l1.length : Int) 1 6).bind fun t214 => (if t214 = true then ((spec_l1All.f k l0 0 99).bind fun t215 => (if t215 = true then ((spec_l1All.f k l1 0 99).bind fun t216 => (spec_TableOfScales.j0 k l0 l1 (!t216))) else (spec_TableOfScales.j0 k l0 l1 true))) else (spec_TableOfScales.j0 k l0 l1 true))) else (spec_TableOfScales.j0 k l0 l1 true))
set_option maxRecDepth 100000 in
set_option maxHeartbeats 20000000 in
theorem spec_TableOfScales.ac (k : Nat) (l0 : List Int) (l1 : List Int) (r1 : Int) (r2 : Int) (r3 : List Int) (r4 : Bool) (h : spec_TableOfScales.f k l0 l1 = some (r1, r2, r3, r4)) :
  ACalls Try.prog 29 [.row 1 l0.length false (ints .i64 l0), .row 1 l1.length false (ints .i64 l1)] [] (fun v H' => v = .tup [.agg [.lit (.int .i64 r1), .lit (.int .i64 r2), .own 0 r3.length], .lit (.bool r4)] ∧ H' = [.sl 3 1 r3.length false (ints .i64 r3)]) := by
 refine ACalls.ofV Try.func29 rfl (by exact Nat.le_of_ble_eq_true rfl) ?_
 simp only [Try.ntmps29, env0, spec_TableOfScales.f] at h ⊢
 refine AWp.seq ?_
 refine AWp.region ?_
 refine L.M (M.al Y26) ?_
 refine L.Y Y.asg ?_
 refine AList.nil ?_
 refine AWp.seq ?_
 refine AWp.seq ?_
 refine AWp.region ?_
 refine L.Y Y.mv ?_
 refine L.Y (Y.ln Try.underlying22) ?_
 replace h := Option.bind_eq_some_iff.1 h
 obtain ⟨t213, hc1, h⟩ := h
 refine L.C (C.callE (l := true) [] Try.func55 (spec_l1In.ac _ _ _ _ hc1) .nil ?_)
 refine L.Y Y.nt ?_
 refine L.Y Y.mv ?_
 refine L.Gc (fun hb => ?_) (fun hb => ?_)
 ·
  have hb2 := hb
  try simp only [hS, hE, ne_eq] at hb
  first | rw [if_pos hb2] at h | rw [if_neg (Bool.eq_false_iff.1 hb2)] at h | rw [if_pos hb] at h | rw [if_neg hb] at h | (simp only [hb, hT, reduceIte] at h) | skip
  refine L.Gn hb2 ?_
  refine L.Gn hb2 ?_
  refine L.Gn hb2 ?_
  refine L.Gn hb2 ?_
  refine L.Y (Y.pk (c := true) hb2) ?_
  refine L.Y Y.mv ?_
  refine L.Gc (fun hb => ?_) (fun hb => ?_)
  rotate_left
  ·
   first | exact Bool.false_ne_true ((Eq.symm (by assumption)).trans hb) | exact Bool.false_ne_true (hb.symm.trans (by assumption)) | exact DD hb
  have hb3 := hb
  refine L.Gn hb3 ?_
  refine L.Gn hb3 ?_
  refine L.Gn hb3 ?_
  refine L.Y (Y.pk (c := true) hb3) ?_
  refine L.Y Y.mv ?_
  refine L.Gc (fun hb => ?_) (fun hb => ?_)
  rotate_left
  ·
   first | exact Bool.false_ne_true ((Eq.symm (by assumption)).trans hb) | exact Bool.false_ne_true (hb.symm.trans (by assumption)) | exact DD hb
  have hb4 := hb
  refine L.Gn hb4 ?_
  refine L.Gn hb4 ?_
  refine L.Gn hb4 ?_
  refine L.Y (Y.pk (c := true) hb4) ?_
  refine AList.nil ?_
  rcases k with _ | k
  ·
   exact absurd h (by simp [spec_TableOfScales.j0])
  simp only [spec_TableOfScales.j0] at h
  refine W.cond (fun hb => ?_) (fun hb => ?_)
  rotate_left
  ·
   first | exact Bool.false_ne_true ((Eq.symm (by assumption)).trans hb) | exact Bool.false_ne_true (hb.symm.trans (by assumption)) | exact DD hb
  have hb5 := hb
  try (first | rw [if_pos hb5] at h | rw [if_neg (Bool.eq_false_iff.1 hb5)] at h | rw [if_pos hb] at h | rw [if_neg hb] at h | (simp only [hb, hT, reduceIte] at h) | skip)
  refine AWp.seq ?_
  refine W.kp [0, 1, 4, 5, 31] ?_
  refine AWp.region ?_
  refine L.Y (Y.bd Try.underlying26 Y26 P26) ?_
  refine L.S (S.stb Y26) ?_
  refine L.Y Y.asg ?_
  refine AList.nil ?_
  simp only [Option.some.injEq, Prod.mk.injEq] at h
  obtain ⟨rfl, rfl, rfl, rfl⟩ := h
  refine AWp.ret ?_
  exact ⟨.inr rfl, _, _, _, Res.c2 Try.underlying26 Y26, ⟨rfl, rfl⟩, PartV.at [(3, 1)] [1] base0 (H.c .nil)⟩
 ·
  have hb2 := hb
  try simp only [hS, hE, ne_eq] at hb
  first | rw [if_pos hb2] at h | rw [if_neg (Bool.eq_false_iff.1 hb2)] at h | rw [if_pos hb] at h | rw [if_neg hb] at h | (simp only [hb, hT, reduceIte] at h) | skip
  refine L.Gy hb2 Y.mv ?_
  refine L.Gy hb2 (Y.ln Try.underlying22) ?_
  replace h := Option.bind_eq_some_iff.1 h
  obtain ⟨t214, hc6, h⟩ := h
  refine L.GC hb2 (C.callE (l := true) [] Try.func55 (spec_l1In.ac _ _ _ _ hc6) .nil ?_)
  refine L.Gy hb2 Y.nt ?_
  refine L.Y (Y.pk (c := false) hb2) ?_
  refine L.Y Y.mv ?_
  refine L.Gc (fun hb => ?_) (fun hb => ?_)
  ·
   have hb7 := hb
   try simp only [hS, hE, ne_eq] at hb
   first | rw [if_pos hb7] at h | rw [if_neg (Bool.eq_false_iff.1 hb7)] at h | rw [if_pos hb] at h | rw [if_neg hb] at h | (simp only [hb, hT, reduceIte] at h) | skip
   refine L.Gn hb7 ?_
   refine L.Gn hb7 ?_
   refine L.Gn hb7 ?_
   refine L.Y (Y.pk (c := true) hb7) ?_
   refine L.Y Y.mv ?_
   refine L.Gc (fun hb => ?_) (fun hb => ?_)
   rotate_left
   ·
    first | exact Bool.false_ne_true ((Eq.symm (by assumption)).trans hb) | exact Bool.false_ne_true (hb.symm.trans (by assumption)) | exact DD hb
   have hb8 := hb
   refine L.Gn hb8 ?_
   refine L.Gn hb8 ?_
   refine L.Gn hb8 ?_
   refine L.Y (Y.pk (c := true) hb8) ?_
   refine AList.nil ?_
   rcases k with _ | k
   ·
    exact absurd h (by simp [spec_TableOfScales.j0])
   simp only [spec_TableOfScales.j0] at h
   refine W.cond (fun hb => ?_) (fun hb => ?_)
   rotate_left
   ·
    first | exact Bool.false_ne_true ((Eq.symm (by assumption)).trans hb) | exact Bool.false_ne_true (hb.symm.trans (by assumption)) | exact DD hb
   have hb9 := hb
   try (first | rw [if_pos hb9] at h | rw [if_neg (Bool.eq_false_iff.1 hb9)] at h | rw [if_pos hb] at h | rw [if_neg hb] at h | (simp only [hb, hT, reduceIte] at h) | skip)
   refine AWp.seq ?_
   refine W.kp [0, 1, 4, 5, 31] ?_
   refine AWp.region ?_
   refine L.Y (Y.bd Try.underlying26 Y26 P26) ?_
   refine L.S (S.stb Y26) ?_
   refine L.Y Y.asg ?_
   refine AList.nil ?_
   simp only [Option.some.injEq, Prod.mk.injEq] at h
   obtain ⟨rfl, rfl, rfl, rfl⟩ := h
   refine AWp.ret ?_
   exact ⟨.inr rfl, _, _, _, Res.c2 Try.underlying26 Y26, ⟨rfl, rfl⟩, PartV.at [(3, 1)] [1] base0 (H.c .nil)⟩
  ·
   have hb7 := hb
   try simp only [hS, hE, ne_eq] at hb
   first | rw [if_pos hb7] at h | rw [if_neg (Bool.eq_false_iff.1 hb7)] at h | rw [if_pos hb] at h | rw [if_neg hb] at h | (simp only [hb, hT, reduceIte] at h) | skip
   refine L.Gy hb7 Y.mv ?_
   replace h := Option.bind_eq_some_iff.1 h
   obtain ⟨t215, hc10, h⟩ := h
   refine L.GC hb7 (C.callE (l := true) [] Try.func56 (spec_l1All.ac _ _ _ _ _ hc10) .nil ?_)
   refine L.Gy hb7 Y.nt ?_
   refine L.Y (Y.pk (c := false) hb7) ?_
   refine L.Y Y.mv ?_
   refine L.Gc (fun hb => ?_) (fun hb => ?_)
   ·
    have hb11 := hb
    try simp only [hS, hE, ne_eq] at hb
    first | rw [if_pos hb11] at h | rw [if_neg (Bool.eq_false_iff.1 hb11)] at h | rw [if_pos hb] at h | rw [if_neg hb] at h | (simp only [hb, hT, reduceIte] at h) | skip
    refine L.Gn hb11 ?_
    refine L.Gn hb11 ?_
    refine L.Gn hb11 ?_
    refine L.Y (Y.pk (c := true) hb11) ?_
    refine AList.nil ?_
    rcases k with _ | k
    ·
     exact absurd h (by simp [spec_TableOfScales.j0])
    simp only [spec_TableOfScales.j0] at h
    refine W.cond (fun hb => ?_) (fun hb => ?_)
    rotate_left
    ·
     first | exact Bool.false_ne_true ((Eq.symm (by assumption)).trans hb) | exact Bool.false_ne_true (hb.symm.trans (by assumption)) | exact DD hb
    have hb12 := hb
    try (first | rw [if_pos hb12] at h | rw [if_neg (Bool.eq_false_iff.1 hb12)] at h | rw [if_pos hb] at h | rw [if_neg hb] at h | (simp only [hb, hT, reduceIte] at h) | skip)
    refine AWp.seq ?_
    refine W.kp [0, 1, 4, 5, 31] ?_
    refine AWp.region ?_
    refine L.Y (Y.bd Try.underlying26 Y26 P26) ?_
    refine L.S (S.stb Y26) ?_
    refine L.Y Y.asg ?_
    refine AList.nil ?_
    simp only [Option.some.injEq, Prod.mk.injEq] at h
    obtain ⟨rfl, rfl, rfl, rfl⟩ := h
    refine AWp.ret ?_
    exact ⟨.inr rfl, _, _, _, Res.c2 Try.underlying26 Y26, ⟨rfl, rfl⟩, PartV.at [(3, 1)] [1] base0 (H.c .nil)⟩
   ·
    have hb11 := hb
    try simp only [hS, hE, ne_eq] at hb
    first | rw [if_pos hb11] at h | rw [if_neg (Bool.eq_false_iff.1 hb11)] at h | rw [if_pos hb] at h | rw [if_neg hb] at h | (simp only [hb, hT, reduceIte] at h) | skip
    refine L.Gy hb11 Y.mv ?_
    replace h := Option.bind_eq_some_iff.1 h
    obtain ⟨t216, hc13, h⟩ := h
    refine L.GC hb11 (C.callE (l := true) [] Try.func56 (spec_l1All.ac _ _ _ _ _ hc13) .nil ?_)
    refine L.Gy hb11 Y.nt ?_
    refine L.Y (Y.pk (c := false) hb11) ?_
    refine AList.nil ?_
    rcases k with _ | k
    ·
     exact absurd h (by simp [spec_TableOfScales.j0])
    simp only [spec_TableOfScales.j0] at h
    refine W.cond (fun hb => ?_) (fun hb => ?_)
    ·
     have hb14 := hb
     try simp only [hS, hE, ne_eq] at hb
     first | rw [if_pos hb14] at h | rw [if_neg (Bool.eq_false_iff.1 hb14)] at h | rw [if_pos hb] at h | rw [if_neg hb] at h | (simp only [hb, hT, reduceIte] at h) | skip
     refine AWp.seq ?_
     refine W.kp [0, 1, 4, 5, 31] ?_
     refine AWp.region ?_
     refine L.Y (Y.bd Try.underlying26 Y26 P26) ?_
     refine L.S (S.stb Y26) ?_
     refine L.Y Y.asg ?_
     refine AList.nil ?_
     simp only [Option.some.injEq, Prod.mk.injEq] at h
     obtain ⟨rfl, rfl, rfl, rfl⟩ := h
     refine AWp.ret ?_
     exact ⟨.inr rfl, _, _, _, Res.c2 Try.underlying26 Y26, ⟨rfl, rfl⟩, PartV.at [(3, 1)] [1] base0 (H.c .nil)⟩
    ·
     have hb14 := hb
     try simp only [hS, hE, ne_eq] at hb
     first | rw [if_pos hb14] at h | rw [if_neg (Bool.eq_false_iff.1 hb14)] at h | rw [if_pos hb] at h | rw [if_neg hb] at h | (simp only [hb, hT, reduceIte] at h) | skip
     refine AWp.skip ?_
     refine AWp.seq ?_
     refine W.kp [0, 1, 4, 5, 31] ?_
     refine AWp.region ?_
     refine L.Y Y.mv ?_
     refine L.Y (Y.ln Try.underlying22) ?_
     refine L.Y Y.mv ?_
     refine L.Y (Y.ln Try.underlying22) ?_
     refine L.Y (Y.bd Try.underlying26 Y26 P26) ?_
     refine L.M (M.al Y26) ?_
     refine L.S (S.stb Y26) ?_
     refine AList.nil ?_
     refine AWp.seq ?_
     refine AWp.seq ?_
     refine W.kp [0, 1, 4, 5, 6, 31] ?_
     refine AWp.region ?_
     refine L.Y Y.mv ?_
     refine L.Y (Y.ln Try.underlying22) ?_
     refine L.Y Y.mv ?_
     refine AList.nil ?_
     refine AWp.block ?_
     refine AWp.loopI (fun kk e H => kk ≤ k ∧ ∃ (x39 : Int) (x40 : Int) (x213000 : Int) (x213001 : Int) (x218000 : Int) (x218001 : Int) (x218002 : List Int), e = [(1, .row 1 l1.length false (ints .i64 l1)), (4, .ptr 0 0), (6, .ptr 1 0), (38, .row 1 l0.length false (ints .i64 l0)), (39, .lit (.int .i64 x39)), (40, .lit (.int .i64 x40))] ∧ H = [.bx 26 [.lit (.int .i64 x213000), .lit (.int .i64 x213001), .lit (.slice none 0 0)], .bx 26 [.lit (.int .i64 x218000), .lit (.int .i64 x218001), .own 2 x218002.length], .sl 3 1 x218002.length false (ints .i64 x218002)] ∧ spec_TableOfScales.l0 kk l1 l0 x39 x40 x218000 x218001 x218002 = some (r1, r2, r3, r4)) (k := k)
      ⟨_, _, ⟨Nat.le_refl _, _, _, _, _, _, _, _, rfl, rfl, h⟩, IsPart.at [(3, 1)] [0, 1, 2] base0 (H.c (H.c (H.c .nil))) (E.c (E.c (E.c (E.c (E.c (E.c .nil))))))⟩ ?_
     clear h
     rintro k15 e H ⟨hk16, x39, x40, x213000, x213001, x218000, x218001, x218002, rfl, rfl, h⟩
     cases k15 with
     | zero => exact absurd h (by simp [spec_TableOfScales.l0])
     | succ k15 =>
     simp only [spec_TableOfScales.l0] at h
     refine AWp.seq ?_
     refine AWp.region ?_
     refine L.Y Y.bin ?_
     refine AList.nil ?_
     refine AWp.seq ?_
     refine W.cond (fun hb => ?_) (fun hb => ?_)
     ·
      have hb17 := hb
      try simp only [hS, hE, ne_eq] at hb
      first | rw [if_pos hb17] at h | rw [if_neg (Bool.eq_false_iff.1 hb17)] at h | rw [if_pos hb] at h | rw [if_neg hb] at h | (simp only [hb, hT, reduceIte] at h) | skip
      repeat (first | (rw [iN] at h; obtain ⟨_, h⟩ := h) | (rw [iP] at h; obtain ⟨_, h⟩ := h) | (simp only [bS] at h))
      refine AWp.skip ?_
      refine AWp.seq ?_
      refine AWp.block ?_
      refine AWp.seq ?_
      refine AWp.region ?_
      refine L.Y (Y.ixr Try.underlying22 Y3) ?_
      refine L.S (S.ld Try.underlying3) ?_
      refine L.Y Y.asg ?_
      refine AList.nil ?_
      refine AWp.seq ?_
      refine AWp.region ?_
      refine L.Y Y.asg ?_
      refine AList.nil ?_
      refine AWp.seq ?_
      refine AWp.seq ?_
      refine AWp.region ?_
      refine L.Y Y.mv ?_
      refine L.Y (Y.ln Try.underlying22) ?_
      refine L.Y Y.mv ?_
      refine AList.nil ?_
      refine AWp.block ?_
      refine AWp.loopI (fun kk e H => kk ≤ k15 ∧ ∃ (x8 : Int) (x9 : Int) (x39 : Int) (x40 : Int) (x45 : Int) (x46 : Int) (x213000 : Int) (x213001 : Int) (x218000 : Int) (x218001 : Int) (x218002 : List Int), e = [(1, .row 1 l1.length false (ints .i64 l1)), (4, .ptr 0 0), (6, .ptr 1 0), (8, .lit (.int .i64 x8)), (9, .lit (.int .i64 x9)), (38, .row 1 l0.length false (ints .i64 l0)), (39, .lit (.int .i64 x39)), (40, .lit (.int .i64 x40)), (44, .row 1 l1.length false (ints .i64 l1)), (45, .lit (.int .i64 x45)), (46, .lit (.int .i64 x46))] ∧ H = [.bx 26 [.lit (.int .i64 x213000), .lit (.int .i64 x213001), .lit (.slice none 0 0)], .bx 26 [.lit (.int .i64 x218000), .lit (.int .i64 x218001), .own 2 x218002.length], .sl 3 1 x218002.length false (ints .i64 x218002)] ∧ spec_TableOfScales.l1 kk l1 x8 x9 l0 x39 x40 l1 x45 x46 x218000 x218001 x218002 = some (r1, r2, r3, r4)) (k := k15)
       ⟨_, _, ⟨Nat.le_refl _, _, _, _, _, _, _, _, _, _, _, _, rfl, rfl, h⟩, IsPart.at [] [0, 1, 2] base0 (H.c (H.c (H.c .nil))) (E.c (E.c (E.c (E.c (E.c (E.c (E.c (E.c (E.c (E.c (E.c .nil)))))))))))⟩ ?_
      clear h
      rintro k18 e H ⟨hk19, x8, x9, x39, x40, x45, x46, x213000, x213001, x218000, x218001, x218002, rfl, rfl, h⟩
      cases k18 with
      | zero => exact absurd h (by simp [spec_TableOfScales.l1])
      | succ k18 =>
      simp only [spec_TableOfScales.l1] at h
      refine AWp.seq ?_
      refine AWp.region ?_
      refine L.Y Y.bin ?_
      refine AList.nil ?_
      refine AWp.seq ?_
      refine W.cond (fun hb => ?_) (fun hb => ?_)
      ·
       have hb20 := hb
       try simp only [hS, hE, ne_eq] at hb
       first | rw [if_pos hb20] at h | rw [if_neg (Bool.eq_false_iff.1 hb20)] at h | rw [if_pos hb] at h | rw [if_neg hb] at h | (simp only [hb, hT, reduceIte] at h) | skip
       repeat (first | (rw [iN] at h; obtain ⟨_, h⟩ := h) | (rw [iP] at h; obtain ⟨_, h⟩ := h) | (simp only [bS] at h))
       refine AWp.skip ?_
       refine AWp.seq ?_
       refine AWp.block ?_
       refine AWp.seq ?_
       refine AWp.region ?_
       refine L.Y Y.mv ?_
       refine L.Y (Y.ixr Try.underlying22 Y3) ?_
       refine L.S (S.ld Try.underlying3) ?_
       refine L.Y Y.asg ?_
       refine L.Y Y.asg ?_
       refine AList.nil ?_
       refine AWp.seq ?_
       refine AWp.region ?_
       refine L.Y Y.mv ?_
       refine L.Y Y.mv ?_
       refine L.Y Y.bin ?_
       refine AList.nil ?_
       refine W.cond (fun hb => ?_) (fun hb => ?_)
       ·
        have hb21 := hb
        try simp only [hS, hE, ne_eq] at hb
        first | rw [if_pos hb21] at h | rw [if_neg (Bool.eq_false_iff.1 hb21)] at h | rw [if_pos hb] at h | rw [if_neg hb] at h | (simp only [hb, hT, reduceIte] at h) | skip
        refine W.kp [1, 4, 6, 8, 9, 10, 11, 38, 39, 40, 44, 45, 46, 47, 53] ?_
        refine AWp.region ?_
        refine L.Y Y.mv ?_
        refine L.Y Y.mv ?_
        refine L.Y Y.bin ?_
        refine L.Y Y.bin ?_
        refine L.Y Y.asg ?_
        refine AList.nil ?_
        refine W.kp [1, 4, 6, 8, 9, 10, 11, 38, 39, 40, 44, 45, 46, 47, 53] ?_
        refine AWp.region ?_
        refine L.Y Y.bin ?_
        refine L.Y Y.mv ?_
        refine AList.nil ?_
        exact ⟨k18, by omega, _, _, ⟨by omega, _, _, _, _, _, _, _, _, _, _, _, rfl, rfl, h⟩, IsPart.at [] [0, 1, 2] base0 (H.c (H.c (H.c .nil))) (E.c (E.c (E.c (E.c (E.c (E.c (E.c (E.c (E.c (E.c (E.c .nil)))))))))))⟩
       ·
        have hb21 := hb
        try simp only [hS, hE, ne_eq] at hb
        first | rw [if_pos hb21] at h | rw [if_neg (Bool.eq_false_iff.1 hb21)] at h | rw [if_pos hb] at h | rw [if_neg hb] at h | (simp only [hb, hT, reduceIte] at h) | skip
        refine AWp.skip ?_
        refine W.kp [1, 4, 6, 8, 9, 10, 11, 38, 39, 40, 44, 45, 46, 47, 53] ?_
        refine AWp.region ?_
        refine L.Y Y.bin ?_
        refine L.Y Y.mv ?_
        refine AList.nil ?_
        exact ⟨k18, by omega, _, _, ⟨by omega, _, _, _, _, _, _, _, _, _, _, _, rfl, rfl, h⟩, IsPart.at [] [0, 1, 2] base0 (H.c (H.c (H.c .nil))) (E.c (E.c (E.c (E.c (E.c (E.c (E.c (E.c (E.c (E.c (E.c .nil)))))))))))⟩
      ·
       have hb20 := hb
       try simp only [hS, hE, ne_eq] at hb
       first | rw [if_pos hb20] at h | rw [if_neg (Bool.eq_false_iff.1 hb20)] at h | rw [if_pos hb] at h | rw [if_neg hb] at h | (simp only [hb, hT, reduceIte] at h) | skip
       repeat (first | (rw [iN] at h; obtain ⟨_, h⟩ := h) | (rw [iP] at h; obtain ⟨_, h⟩ := h) | (simp only [bS] at h))
       refine AWp.exit ?_
       refine AWp.region ?_
       refine L.Y (Y.fa (off := 2) Try.underlying26 Y22) ?_
       refine L.S (S.ld Try.underlying22) ?_
       refine L.Y Y.mv ?_
       refine L.M (M.bs Try.underlying22 Y3) ?_
       refine L.S (S.ap (nn' := false) Try.underlying22 Y3) ?_
       refine L.Y (Y.fa (off := 2) Try.underlying26 Y22) ?_
       refine L.S (S.stb Y22) ?_
       refine AList.nil ?_
       refine W.kp [1, 4, 6, 8, 9, 38, 39, 40, 44, 45, 46, 47] ?_
       refine AWp.region ?_
       refine L.Y Y.bin ?_
       refine L.Y Y.mv ?_
       refine AList.nil ?_
       exact ⟨k18, by omega, _, _, ⟨by omega, _, _, _, _, _, _, _, rfl, rfl, h⟩, IsPart.at [] [0, 1, 2] base0 (H.c (H.c (H.c .nil))) (E.c (E.c (E.c (E.c (E.c (E.c .nil))))))⟩
     ·
      have hb17 := hb
      try simp only [hS, hE, ne_eq] at hb
      first | rw [if_pos hb17] at h | rw [if_neg (Bool.eq_false_iff.1 hb17)] at h | rw [if_pos hb] at h | rw [if_neg hb] at h | (simp only [hb, hT, reduceIte] at h) | skip
      refine AWp.exit ?_
      refine AWp.seq ?_
      refine AWp.region ?_
      refine L.S (S.ldN Try.underlying26 Y26) ?_
      refine L.S (S.stb Y26) ?_
      refine L.Y Y.asg ?_
      refine AList.nil ?_
      simp only [Option.some.injEq, Prod.mk.injEq] at h
      obtain ⟨rfl, rfl, rfl, rfl⟩ := h
      refine AWp.ret ?_
      exact ⟨.inr rfl, _, _, _, Res.c2 Try.underlying26 Y26, ⟨rfl, rfl⟩, PartV.at [] [2] base0 (H.c .nil)⟩

/-- A state of type 65 at block g of W; what its slices lead to came in by w0. -/
def IsS65 (w0 W : World) (g : Nat) (f0 : List Int) (f1 : Int) (f2 : Int) : Prop := ∃ A0 c0, W.heap[g]? = some (.cells #[.slice A0 f0.length c0, .int .i64 f1, .int .u64 f2] 65 (0, 0)) ∧ w0.heap.size ≤ g ∧ Kd.C (Kd.int .u8) w0 A0 f0.length f0
theorem IsS65.grown {w0 W : World} {g : Nat} {f0 : List Int} {f1 : Int} {f2 : Int} {W1 : World} {row : Option Nat} (h : IsS65 w0 W g f0 f1 f2) (hw : W.grownBy W1 row) (hne : some g ≠ row) : IsS65 w0 W1 g f0 f1 f2 := by
 obtain ⟨A0, c0, hb, hg, hr0⟩ := h
 exact ⟨A0, c0, blk_grown hb hw hne, hg, hr0⟩
theorem IsS65.own_neN {w0 W : World} {g : Nat} {f0 : List Int} {f1 : Int} {f2 : Int} {α : Type} {d : Kd α} {e : Nat} {base : Nat} {ok : Nat → Prop} {v : Value} {xs : List α} (h : IsS65 w0 W g f0 f1 f2) (ho : Kd.N d e W base ok v xs) (ht : e ≠ 65) : some g ≠ v.ownBlock := by
 obtain ⟨A0, c0, hb, hg, hr0⟩ := h
 exact Kd.N_ne ho hb ht
theorem IsS65.fresh {w0 W : World} {g : Nat} {f0 : List Int} {f1 : Int} {f2 : Int} (h : IsS65 w0 W g f0 f1 f2) : ∀ k, W.heap.size ≤ k → k ≠ g := by
 obtain ⟨A0, c0, hb, hg, hr0⟩ := h
 exact Kd.freshB hb
theorem IsS65.kept {w0 W : World} {g : Nat} {f0 : List Int} {f1 : Int} {f2 : Int} {W1 : World} {S : Nat → Prop} (h : IsS65 w0 W g f0 f1 f2) (hk : Kept W W1 S) (hne : ¬ S g) : IsS65 w0 W1 g f0 f1 f2 := by
 obtain ⟨A0, c0, hb, hg, hr0⟩ := h
 exact ⟨A0, c0, blk_kept hb hk hne, hg, hr0⟩
theorem IsS65.below {w0 W : World} {g : Nat} {f0 : List Int} {f1 : Int} {f2 : Int} {W1 : World} (h : IsS65 w0 W g f0 f1 f2) (hw : Below W.heap.size W W1) : IsS65 w0 W1 g f0 f1 f2 := h.grown (grown_of_below hw none) (by simp)
theorem IsS65.alloc {w0 W : World} {g : Nat} {f0 : List Int} {f1 : Int} {f2 : Int} (h : IsS65 w0 W g f0 f1 f2) (o : Obj) : IsS65 w0 (W.alloc o) g f0 f1 f2 := h.below (below_alloc (Below.refl _ _) o)
theorem IsS65.drewN {w0 W : World} {g : Nat} {f0 : List Int} {f1 : Int} {f2 : Int} (h : IsS65 w0 W g f0 f1 f2) (m : Nat) : IsS65 w0 (W.drewN m) g f0 f1 f2 := h
theorem IsS65.drew {w0 W : World} {g : Nat} {f0 : List Int} {f1 : Int} {f2 : Int} (h : IsS65 w0 W g f0 f1 f2) : IsS65 w0 W.drew g f0 f1 f2 := h
theorem IsS65.at_ {w0 W : World} {g : Nat} {f0 : List Int} {f1 : Int} {f2 : Int} {w' : World} {m : Nat} (hq : W.drewN m = w') (h : IsS65 w0 W g f0 f1 f2) : IsS65 w0 w' g f0 f1 f2 := by subst hq; exact IsS65.drewN h m
theorem IsS65.apart {w0 W : World} {g : Nat} {f0 : List Int} {f1 : Int} {f2 : Int} {α : Type} {d : Kd α} {e : Nat} {base : Nat} {ok : Nat → Prop} {v : Value} {xs : List α} (h : IsS65 w0 W g f0 f1 f2) (ho : d.R e W base ok v xs) (ht : ∀ q, q ∈ e :: d.E → q ≠ 65) : d.R e W base (fun k => ok k ∧ k ≠ g) v xs := by
 obtain ⟨A0, c0, hb, hg, hr0⟩ := h
 exact Kd.R_types ho hb ht
theorem IsS65.own_ne {w0 W : World} {g : Nat} {f0 : List Int} {f1 : Int} {f2 : Int} {α : Type} {d : Kd α} {e : Nat} {base : Nat} {ok : Nat → Prop} {v : Value} {xs : List α} (h : IsS65 w0 W g f0 f1 f2) (ho : d.R e W base ok v xs) (ht : e ≠ 65) : some g ≠ v.ownBlock := by
 obtain ⟨A0, c0, hb, hg, hr0⟩ := h
 exact Kd.R_ne ho hb ht
theorem IsS65.apartQ {w0 W : World} {g : Nat} {f0 : List Int} {f1 : Int} {f2 : Int} {α : Type} {d : Kd α} {e : Nat} {base : Nat} {ok : Nat → Prop} {v : Value} {xs : List α} (h : IsS65 w0 W g f0 f1 f2) (ho : d.Q e W base ok v xs) (ht : ∀ q, q ∈ e :: d.E → q ≠ 65) : d.Q e W base (fun k => ok k ∧ k ≠ g) v xs := by
 obtain ⟨A0, c0, hb, hg, hr0⟩ := h
 exact Kd.Q_types ho hb ht
theorem IsS65.own_neQ {w0 W : World} {g : Nat} {f0 : List Int} {f1 : Int} {f2 : Int} {α : Type} {d : Kd α} {e : Nat} {base : Nat} {ok : Nat → Prop} {v : Value} {xs : List α} (h : IsS65 w0 W g f0 f1 f2) (ho : d.Q e W base ok v xs) (ht : e ≠ 65) : some g ≠ v.ownBlock := by
 obtain ⟨A0, c0, hb, hg, hr0⟩ := h
 exact Kd.Q_ne ho hb ht
theorem IsS65.apartS {w0 W : World} {g : Nat} {f0 : List Int} {f1 : Int} {f2 : Int} {α : Type} {d : Kd α} {e : Nat} {base : Nat} {ok : Nat → Prop} {v : Value} {xs : List α} (h : IsS65 w0 W g f0 f1 f2) (ho : d.S e W base ok v xs) (ht : ∀ q, q ∈ e :: d.E → q ≠ 65) : d.S e W base (fun k => ok k ∧ k ≠ g) v xs := by
 obtain ⟨A0, c0, hb, hg, hr0⟩ := h
 exact Kd.S_types ho hb ht
theorem IsS65.own_neS {w0 W : World} {g : Nat} {f0 : List Int} {f1 : Int} {f2 : Int} {α : Type} {d : Kd α} {e : Nat} {base : Nat} {ok : Nat → Prop} {v : Value} {xs : List α} (h : IsS65 w0 W g f0 f1 f2) (ho : d.S e W base ok v xs) (ht : e ≠ 65) : some g ≠ v.ownBlock := by
 obtain ⟨A0, c0, hb, hg, hr0⟩ := h
 exact Kd.S_ne ho hb ht
theorem IsS65.lt {w0 W : World} {g : Nat} {f0 : List Int} {f1 : Int} {f2 : Int} (h : IsS65 w0 W g f0 f1 f2) : g < W.heap.size := by
 obtain ⟨A0, c0, hb, hg, hr0⟩ := h
 exact blk_lt hb
theorem IsS65.ge {w0 W : World} {g : Nat} {f0 : List Int} {f1 : Int} {f2 : Int} (h : IsS65 w0 W g f0 f1 f2) : w0.heap.size ≤ g := by
 obtain ⟨A0, c0, hb, hg, hr0⟩ := h
 exact hg
theorem IsS65.ne_blk {w0 W : World} {g : Nat} {f0 : List Int} {f1 : Int} {f2 : Int} {a : Nat} {cs : Array Value} {t : TypeId} {fr : Nat × Nat} (h : IsS65 w0 W g f0 f1 f2) (hb2 : W.heap[a]? = some (.cells cs t fr)) (ht : t ≠ 65) : g ≠ a := by
 obtain ⟨A0, c0, hb, hg, hr0⟩ := h
 rintro rfl
 rw [hb] at hb2
 injection hb2 with hb2
 injection hb2 with _ ht2
 exact ht ht2.symm
theorem IsS65.far {w0 W : World} {g : Nat} {f0 : List Int} {f1 : Int} {f2 : Int} {p : Addr} (h : IsS65 w0 W g f0 f1 f2) (hne : g ≠ p.block) (u : Value) : IsS65 w0 (W.setCell p u) g f0 f1 f2 := by
 obtain ⟨A0, c0, hb, hg, hr0⟩ := h
 exact ⟨A0, c0, blk_far hb hne u, hg, hr0⟩
theorem cellS65_0 {W : World} {g : Nat} {A0 : Option Addr} {c0 : Nat} {f0 : List Int} {f1 : Int} {f2 : Int} (h : W.heap[g]? = some (.cells #[.slice A0 f0.length c0, .int .i64 f1, .int .u64 f2] 65 (0, 0))) : W.cell? ⟨g, 0, none⟩ = some (.slice A0 f0.length c0) := (blk_cell h 0).trans rfl
theorem cellS65_1 {W : World} {g : Nat} {A0 : Option Addr} {c0 : Nat} {f0 : List Int} {f1 : Int} {f2 : Int} (h : W.heap[g]? = some (.cells #[.slice A0 f0.length c0, .int .i64 f1, .int .u64 f2] 65 (0, 0))) : W.cell? ⟨g, 1, none⟩ = some (.int .i64 f1) := (blk_cell h 1).trans rfl
theorem IsS65.set_1 {w0 W : World} {g : Nat} {f0 : List Int} {f1 : Int} {f2 : Int} (h : IsS65 w0 W g f0 f1 f2) (x : Int) : IsS65 w0 (W.setCell ⟨g, 1, none⟩ (.int .i64 x)) g f0 x f2 := by
 obtain ⟨A0, c0, hb, hg, hr0⟩ := h
 exact ⟨A0, c0, by simpa using blk_set hb 1 (.int .i64 x), hg, hr0⟩
theorem cellS65_2 {W : World} {g : Nat} {A0 : Option Addr} {c0 : Nat} {f0 : List Int} {f1 : Int} {f2 : Int} (h : W.heap[g]? = some (.cells #[.slice A0 f0.length c0, .int .i64 f1, .int .u64 f2] 65 (0, 0))) : W.cell? ⟨g, 2, none⟩ = some (.int .u64 f2) := (blk_cell h 2).trans rfl
theorem IsS65.set_2 {w0 W : World} {g : Nat} {f0 : List Int} {f1 : Int} {f2 : Int} (h : IsS65 w0 W g f0 f1 f2) (x : Int) : IsS65 w0 (W.setCell ⟨g, 2, none⟩ (.int .u64 x)) g f0 f1 x := by
 obtain ⟨A0, c0, hb, hg, hr0⟩ := h
 exact ⟨A0, c0, by simpa using blk_set hb 2 (.int .u64 x), hg, hr0⟩
theorem IsS65.new (w0 W : World) (A0 : Option Addr) (c0 : Nat) (f0 : List Int) (f1 : Int) (f2 : Int) (hB : Below w0.heap.size w0 W) (hr0 : Kd.C (Kd.int .u8) w0 A0 f0.length f0) : IsS65 w0 (W.alloc (.cells #[.slice A0 f0.length c0, .int .i64 f1, .int .u64 f2] 65)) W.heap.size f0 f1 f2 := ⟨A0, c0, by simpa using heap_alloc_new W _, hB.size, hr0⟩

/-! ### spec_l1Cur_next: function 63 -/
def spec_l1Cur_next.f (s0_0 : List Int) (s0_1 : Int) (s0_2 : Int) : Option (Int × Int × Int) := if s0_1 < (s0_0.length : Int) then (if 0 ≤ s0_1 then (if (wrap64 (s0_1 + 1)) ≤ (s0_0.length : Int) then (some (wrap64 (rd s0_0 s0_1), wrap64 (s0_1 + 1), IntKind.u64.wrap ((IntKind.u64.wrap ((IntKind.u64.wrap (s0_2 * 6364136223846793005)) + (IntKind.u64.wrap (wrap64 (rd s0_0 s0_1))))) + 1442695040888963407))) else (some (wrap64 (Go.bits .and .u64 ((IntKind.u64.wrap ((IntKind.u64.wrap ((IntKind.u64.wrap (s0_2 * 6364136223846793005)) + (IntKind.u64.wrap (wrap64 (rd s0_0 s0_1))))) + 1442695040888963407)) / 1099511627776) 255), wrap64 (s0_1 + 1), IntKind.u64.wrap ((IntKind.u64.wrap ((IntKind.u64.wrap (s0_2 * 6364136223846793005)) + (IntKind.u64.wrap (wrap64 (rd s0_0 s0_1))))) + 1442695040888963407)))) else (none)) else (if (wrap64 (s0_1 + 1)) ≤ (s0_0.length : Int) then (some (0, wrap64 (s0_1 + 1), IntKind.u64.wrap ((IntKind.u64.wrap ((IntKind.u64.wrap (s0_2 * 6364136223846793005)) + 0)) + 1442695040888963407))) else (some (wrap64 (Go.bits .and .u64 ((IntKind.u64.wrap ((IntKind.u64.wrap ((IntKind.u64.wrap (s0_2 * 6364136223846793005)) + 0)) + 1442695040888963407)) / 1099511627776) 255), wrap64 (s0_1 + 1), IntKind.u64.wrap ((IntKind.u64.wrap ((IntKind.u64.wrap (s0_2 * 6364136223846793005)) + 0)) + 1442695040888963407))))
set_option maxRecDepth 100000 in
set_option maxHeartbeats 20000000 in
theorem spec_l1Cur_next.ac (s0_0 : List Int) (s0_1 : Int) (s0_2 : Int) (r1 : Int) (r2 : Int) (r3 : Int) (h : spec_l1Cur_next.f s0_0 s0_1 s0_2 = some (r1, r2, r3)) :
  ACalls Try.prog 63 [.ptr 0 0] [.bx 65 [.row 1 s0_0.length false (ints .u8 s0_0), .lit (.int .i64 s0_1), .lit (.int .u64 s0_2)]] (fun v H' => v = .lit (.int .i64 r1) ∧ H' = [.bx 65 [.row 1 s0_0.length false (ints .u8 s0_0), .lit (.int .i64 r2), .lit (.int .u64 r3)]]) := by
 refine ACalls.ofP [2] Try.func63 rfl (by exact Nat.le_of_ble_eq_true rfl) rfl (by decide) ?_
 simp only [Try.ntmps63, env0, spec_l1Cur_next.f] at h ⊢
 refine AWp.seq ?_
 refine AWp.region ?_
 refine L.Y Y.asg ?_
 refine AList.nil ?_
 refine AWp.seq ?_
 refine AWp.region ?_
 refine L.Y Y.asg ?_
 refine AList.nil ?_
 refine AWp.seq ?_
 refine AWp.seq ?_
 refine Dt.reg [] [] (.y 0 (.y 1 (.y 2 (.t 3 (.y 4 (.y 5 (.y 6 (.t 7 (.y 8 (.y 9 .done)))))))))) HM ?_
 refine Dt.Y rfl wantN Y.mv ?_
 refine Dt.Y rfl wantN Y.nc ?_
 refine Dt.Y rfl wantN (Y.fa (off := 1) Try.underlying65 Y3) ?_
 refine Dt.T rfl wantN (D.ld Try.underlying3) ?_
 refine Dt.Y rfl wantN Y.mv ?_
 refine Dt.Y rfl wantN Y.nc ?_
 refine Dt.Y rfl wantN (Y.fa (off := 0) Try.underlying65 Y38) ?_
 refine Dt.T rfl wantN (D.ld Try.underlying38) ?_
 refine Dt.Y rfl wantN (Y.ln Try.underlying38) ?_
 refine Dt.Y rfl wantN Y.bin ?_
 refine Dt.nil ?_
 refine W.cond (fun hb => ?_) (fun hb => ?_)
 ·
  have hb1 := hb
  try simp only [hS, hE, ne_eq] at hb
  first | rw [if_pos hb1] at h | rw [if_neg (Bool.eq_false_iff.1 hb1)] at h | rw [if_pos hb] at h | rw [if_neg hb] at h | (simp only [hb, hT, reduceIte] at h) | skip
  repeat (first | (rw [iN] at h; obtain ⟨_, h⟩ := h) | (rw [iP] at h; obtain ⟨_, h⟩ := h) | (simp only [bS] at h))
  refine W.kp [0, 2, 3, 13] ?_
  refine Dt.reg [] [] (.y 0 (.y 1 (.y 2 (.t 3 (.y 4 (.y 5 (.y 6 (.t 7 (.y 8 (.t 9 (.y 10 (.y 11 .done)))))))))))) HM ?_
  refine Dt.Y rfl wantN Y.mv ?_
  refine Dt.Y rfl wantN Y.nc ?_
  refine Dt.Y rfl wantN (Y.fa (off := 0) Try.underlying65 Y38) ?_
  refine Dt.T rfl wantN (D.ld Try.underlying38) ?_
  refine Dt.Y rfl wantN Y.mv ?_
  refine Dt.Y rfl wantN Y.nc ?_
  refine Dt.Y rfl wantN (Y.fa (off := 1) Try.underlying65 Y3) ?_
  refine Dt.T rfl wantN (D.ld Try.underlying3) ?_
  refine Dt.Y rfl wantN (Y.ixr Try.underlying38 Y5) ?_
  refine Dt.T rfl wantN (D.ld Try.underlying5) ?_
  refine Dt.Y rfl wantN (Y.cv Try.underlying5 Try.underlying3) ?_
  refine Dt.Y rfl wantN Y.asg ?_
  refine Dt.nil ?_
  refine AWp.seq ?_
  refine W.kp [0, 2, 3, 13] ?_
  refine AWp.region ?_
  refine L.Y Y.mv ?_
  refine L.Y Y.nc ?_
  refine L.Y (Y.fa (off := 1) Try.underlying65 Y3) ?_
  refine L.S (S.ld Try.underlying3) ?_
  refine L.Y Y.bin ?_
  refine L.Y Y.nc ?_
  refine L.Y (Y.fa (off := 1) Try.underlying65 Y3) ?_
  refine L.S (S.stb Y3) ?_
  refine AList.nil ?_
  refine AWp.seq ?_
  refine W.kp [0, 2, 3, 13] ?_
  refine AWp.region ?_
  refine L.Y Y.mv ?_
  refine L.Y Y.mv ?_
  refine L.Y Y.nc ?_
  refine L.Y (Y.fa (off := 2) Try.underlying65 Y63) ?_
  refine L.S (S.ld Try.underlying63) ?_
  refine L.Y Y.bin ?_
  refine L.Y Y.mv ?_
  refine L.Y (Y.cv Try.underlying3 Try.underlying63) ?_
  refine L.Y Y.bin ?_
  refine L.Y Y.bin ?_
  refine L.Y Y.nc ?_
  refine L.Y (Y.fa (off := 2) Try.underlying65 Y63) ?_
  refine L.S (S.stb Y63) ?_
  refine AList.nil ?_
  refine AWp.seq ?_
  refine AWp.seq ?_
  refine W.kp [0, 2, 3, 13] ?_
  refine Dt.reg [] [] (.y 0 (.y 1 (.y 2 (.t 3 (.y 4 (.y 5 (.y 6 (.t 7 (.y 8 (.y 9 .done)))))))))) HM ?_
  refine Dt.Y rfl wantN Y.mv ?_
  refine Dt.Y rfl wantN Y.nc ?_
  refine Dt.Y rfl wantN (Y.fa (off := 1) Try.underlying65 Y3) ?_
  refine Dt.T rfl wantN (D.ld Try.underlying3) ?_
  refine Dt.Y rfl wantN Y.mv ?_
  refine Dt.Y rfl wantN Y.nc ?_
  refine Dt.Y rfl wantN (Y.fa (off := 0) Try.underlying65 Y38) ?_
  refine Dt.T rfl wantN (D.ld Try.underlying38) ?_
  refine Dt.Y rfl wantN (Y.ln Try.underlying38) ?_
  refine Dt.Y rfl wantN Y.bin ?_
  refine Dt.nil ?_
  refine W.cond (fun hb => ?_) (fun hb => ?_)
  ·
   have hb2 := hb
   try simp only [hS, hE, ne_eq] at hb
   first | rw [if_pos hb2] at h | rw [if_neg (Bool.eq_false_iff.1 hb2)] at h | rw [if_pos hb] at h | rw [if_neg hb] at h | (simp only [hb, hT, reduceIte] at h) | skip
   refine AWp.seq ?_
   refine W.kp [0, 2, 3, 13, 53] ?_
   refine AWp.region ?_
   refine L.Y Y.mv ?_
   refine L.Y Y.asg ?_
   refine AList.nil ?_
   simp only [Option.some.injEq, Prod.mk.injEq] at h
   obtain ⟨rfl, rfl, rfl⟩ := h
   refine AWp.ret ?_
   exact ⟨.inr rfl, [(2, _)], _, ⟨rfl, rfl⟩, IsPart.at [] [0] base1 (H.c .nil) (E.c .nil)⟩
  ·
   have hb2 := hb
   try simp only [hS, hE, ne_eq] at hb
   first | rw [if_pos hb2] at h | rw [if_neg (Bool.eq_false_iff.1 hb2)] at h | rw [if_pos hb] at h | rw [if_neg hb] at h | (simp only [hb, hT, reduceIte] at h) | skip
   refine AWp.skip ?_
   refine AWp.seq ?_
   refine W.kp [0, 2, 3, 13, 53] ?_
   refine AWp.region ?_
   refine L.Y Y.mv ?_
   refine L.Y Y.nc ?_
   refine L.Y (Y.fa (off := 2) Try.underlying65 Y63) ?_
   refine L.S (S.ld Try.underlying63) ?_
   refine L.Y Y.bin ?_
   refine L.Y Y.bin ?_
   refine L.Y (Y.cv Try.underlying63 Try.underlying3) ?_
   refine L.Y Y.asg ?_
   refine AList.nil ?_
   simp only [Option.some.injEq, Prod.mk.injEq] at h
   obtain ⟨rfl, rfl, rfl⟩ := h
   refine AWp.ret ?_
   exact ⟨.inr rfl, [(2, _)], _, ⟨rfl, rfl⟩, IsPart.at [] [0] base1 (H.c .nil) (E.c .nil)⟩
 ·
  have hb1 := hb
  try simp only [hS, hE, ne_eq] at hb
  first | rw [if_pos hb1] at h | rw [if_neg (Bool.eq_false_iff.1 hb1)] at h | rw [if_pos hb] at h | rw [if_neg hb] at h | (simp only [hb, hT, reduceIte] at h) | skip
  refine AWp.skip ?_
  refine AWp.seq ?_
  refine W.kp [0, 2, 3, 13] ?_
  refine AWp.region ?_
  refine L.Y Y.mv ?_
  refine L.Y Y.nc ?_
  refine L.Y (Y.fa (off := 1) Try.underlying65 Y3) ?_
  refine L.S (S.ld Try.underlying3) ?_
  refine L.Y Y.bin ?_
  refine L.Y Y.nc ?_
  refine L.Y (Y.fa (off := 1) Try.underlying65 Y3) ?_
  refine L.S (S.stb Y3) ?_
  refine AList.nil ?_
  refine AWp.seq ?_
  refine W.kp [0, 2, 3, 13] ?_
  refine AWp.region ?_
  refine L.Y Y.mv ?_
  refine L.Y Y.mv ?_
  refine L.Y Y.nc ?_
  refine L.Y (Y.fa (off := 2) Try.underlying65 Y63) ?_
  refine L.S (S.ld Try.underlying63) ?_
  refine L.Y Y.bin ?_
  refine L.Y Y.mv ?_
  refine L.Y (Y.cv Try.underlying3 Try.underlying63) ?_
  refine L.Y Y.bin ?_
  refine L.Y Y.bin ?_
  refine L.Y Y.nc ?_
  refine L.Y (Y.fa (off := 2) Try.underlying65 Y63) ?_
  refine L.S (S.stb Y63) ?_
  refine AList.nil ?_
  refine AWp.seq ?_
  refine AWp.seq ?_
  refine W.kp [0, 2, 3, 13] ?_
  refine Dt.reg [] [] (.y 0 (.y 1 (.y 2 (.t 3 (.y 4 (.y 5 (.y 6 (.t 7 (.y 8 (.y 9 .done)))))))))) HM ?_
  refine Dt.Y rfl wantN Y.mv ?_
  refine Dt.Y rfl wantN Y.nc ?_
  refine Dt.Y rfl wantN (Y.fa (off := 1) Try.underlying65 Y3) ?_
  refine Dt.T rfl wantN (D.ld Try.underlying3) ?_
  refine Dt.Y rfl wantN Y.mv ?_
  refine Dt.Y rfl wantN Y.nc ?_
  refine Dt.Y rfl wantN (Y.fa (off := 0) Try.underlying65 Y38) ?_
  refine Dt.T rfl wantN (D.ld Try.underlying38) ?_
  refine Dt.Y rfl wantN (Y.ln Try.underlying38) ?_
  refine Dt.Y rfl wantN Y.bin ?_
  refine Dt.nil ?_
  refine W.cond (fun hb => ?_) (fun hb => ?_)
  ·
   have hb3 := hb
   try simp only [hS, hE, ne_eq] at hb
   first | rw [if_pos hb3] at h | rw [if_neg (Bool.eq_false_iff.1 hb3)] at h | rw [if_pos hb] at h | rw [if_neg hb] at h | (simp only [hb, hT, reduceIte] at h) | skip
   refine AWp.seq ?_
   refine W.kp [0, 2, 3, 13, 53] ?_
   refine AWp.region ?_
   refine L.Y Y.mv ?_
   refine L.Y Y.asg ?_
   refine AList.nil ?_
   simp only [Option.some.injEq, Prod.mk.injEq] at h
   obtain ⟨rfl, rfl, rfl⟩ := h
   refine AWp.ret ?_
   exact ⟨.inr rfl, [(2, _)], _, ⟨rfl, rfl⟩, IsPart.at [] [0] base1 (H.c .nil) (E.c .nil)⟩
  ·
   have hb3 := hb
   try simp only [hS, hE, ne_eq] at hb
   first | rw [if_pos hb3] at h | rw [if_neg (Bool.eq_false_iff.1 hb3)] at h | rw [if_pos hb] at h | rw [if_neg hb] at h | (simp only [hb, hT, reduceIte] at h) | skip
   refine AWp.skip ?_
   refine AWp.seq ?_
   refine W.kp [0, 2, 3, 13, 53] ?_
   refine AWp.region ?_
   refine L.Y Y.mv ?_
   refine L.Y Y.nc ?_
   refine L.Y (Y.fa (off := 2) Try.underlying65 Y63) ?_
   refine L.S (S.ld Try.underlying63) ?_
   refine L.Y Y.bin ?_
   refine L.Y Y.bin ?_
   refine L.Y (Y.cv Try.underlying63 Try.underlying3) ?_
   refine L.Y Y.asg ?_
   refine AList.nil ?_
   simp only [Option.some.injEq, Prod.mk.injEq] at h
   obtain ⟨rfl, rfl, rfl⟩ := h
   refine AWp.ret ?_
   exact ⟨.inr rfl, [(2, _)], _, ⟨rfl, rfl⟩, IsPart.at [] [0] base1 (H.c .nil) (E.c .nil)⟩

/-! ### spec_l1Cur_pick: function 53 -/
def spec_l1Cur_pick.f (s0_0 : List Int) (s0_1 : Int) (s0_2 : Int) (a1 : Int) : Option (Int × Int × Int) := if a1 ≤ 1 then (some (0, s0_1, s0_2)) else ((spec_l1Cur_next.f s0_0 s0_1 s0_2).bind fun bt224 => (if a1 > 200 then ((spec_l1Cur_next.f s0_0 bt224.2.1 bt224.2.2).bind fun bt227 => (if a1 = 0 then (none) else (some (Int.tmod (wrap64 ((wrap64 (bt224.1 * 256)) + bt227.1)) a1, bt227.2.1, bt227.2.2)))) else (if a1 = 0 then (none) else (some (Int.tmod bt224.1 a1, bt224.2.1, bt224.2.2)))))
set_option maxRecDepth 100000 in
set_option maxHeartbeats 20000000 in
theorem spec_l1Cur_pick.ac (s0_0 : List Int) (s0_1 : Int) (s0_2 : Int) (a1 : Int) (r1 : Int) (r2 : Int) (r3 : Int) (h : spec_l1Cur_pick.f s0_0 s0_1 s0_2 a1 = some (r1, r2, r3)) :
  ACalls Try.prog 53 [.ptr 0 0, .lit (.int .i64 a1)] [.bx 65 [.row 1 s0_0.length false (ints .u8 s0_0), .lit (.int .i64 s0_1), .lit (.int .u64 s0_2)]] (fun v H' => v = .lit (.int .i64 r1) ∧ H' = [.bx 65 [.row 1 s0_0.length false (ints .u8 s0_0), .lit (.int .i64 r2), .lit (.int .u64 r3)]]) := by
 refine ACalls.ofP [4] Try.func53 rfl (by exact Nat.le_of_ble_eq_true rfl) rfl (by decide) ?_
 simp only [Try.ntmps53, env0, spec_l1Cur_pick.f] at h ⊢
 refine AWp.seq ?_
 refine AWp.region ?_
 refine L.Y Y.asg ?_
 refine AList.nil ?_
 refine AWp.seq ?_
 refine AWp.seq ?_
 refine AWp.region ?_
 refine L.Y Y.mv ?_
 refine L.Y Y.bin ?_
 refine AList.nil ?_
 refine W.cond (fun hb => ?_) (fun hb => ?_)
 ·
  have hb1 := hb
  try simp only [hS, hE, ne_eq] at hb
  first | rw [if_pos hb1] at h | rw [if_neg (Bool.eq_false_iff.1 hb1)] at h | rw [if_pos hb] at h | rw [if_neg hb] at h | (simp only [hb, hT, reduceIte] at h) | skip
  refine AWp.seq ?_
  refine AWp.region ?_
  refine L.Y Y.asg ?_
  refine AList.nil ?_
  simp only [Option.some.injEq, Prod.mk.injEq] at h
  obtain ⟨rfl, rfl, rfl⟩ := h
  refine AWp.ret ?_
  exact ⟨.inr rfl, [(4, _)], _, ⟨rfl, rfl⟩, IsPart.at [] [0] base1 (H.c .nil) (E.c .nil)⟩
 ·
  have hb1 := hb
  try simp only [hS, hE, ne_eq] at hb
  first | rw [if_pos hb1] at h | rw [if_neg (Bool.eq_false_iff.1 hb1)] at h | rw [if_pos hb] at h | rw [if_neg hb] at h | (simp only [hb, hT, reduceIte] at h) | skip
  refine AWp.skip ?_
  refine AWp.seq ?_
  refine AWp.region ?_
  refine L.Y Y.mv ?_
  replace h := Option.bind_eq_some_iff.1 h
  obtain ⟨⟨t224, t225, t226⟩, hc2, h⟩ := h
  dsimp only at h
  refine L.C (C.callE (l := false) [0] Try.func63 (spec_l1Cur_next.ac _ _ _ _ _ _ hc2) (H.c .nil) ?_)
  refine L.Y Y.asg ?_
  refine AList.nil ?_
  refine AWp.seq ?_
  refine AWp.seq ?_
  refine AWp.region ?_
  refine L.Y Y.mv ?_
  refine L.Y Y.bin ?_
  refine AList.nil ?_
  refine W.cond (fun hb => ?_) (fun hb => ?_)
  ·
   have hb3 := hb
   try simp only [hS, hE, ne_eq] at hb
   first | rw [if_pos hb3] at h | rw [if_neg (Bool.eq_false_iff.1 hb3)] at h | rw [if_pos hb] at h | rw [if_neg hb] at h | (simp only [hb, hT, reduceIte] at h) | skip
   refine W.kp [0, 1, 4, 5, 7, 11] ?_
   refine AWp.region ?_
   refine L.Y Y.mv ?_
   refine L.Y Y.bin ?_
   refine L.Y Y.mv ?_
   replace h := Option.bind_eq_some_iff.1 h
   obtain ⟨⟨t227, t228, t229⟩, hc4, h⟩ := h
   dsimp only at h
   repeat (first | (rw [iN] at h; obtain ⟨_, h⟩ := h) | (rw [iP] at h; obtain ⟨_, h⟩ := h) | (simp only [bS] at h))
   refine L.C (C.callE (l := false) [0] Try.func63 (spec_l1Cur_next.ac _ _ _ _ _ _ hc4) (H.c .nil) ?_)
   refine L.Y Y.bin ?_
   refine L.Y Y.asg ?_
   refine AList.nil ?_
   refine AWp.seq ?_
   refine W.kp [0, 1, 4, 5, 7, 11] ?_
   refine AWp.region ?_
   refine L.Y Y.mv ?_
   refine L.Y Y.mv ?_
   refine L.Y Y.bin ?_
   refine L.Y Y.asg ?_
   refine AList.nil ?_
   simp only [Option.some.injEq, Prod.mk.injEq] at h
   obtain ⟨rfl, rfl, rfl⟩ := h
   refine AWp.ret ?_
   exact ⟨.inr rfl, [(4, _)], _, ⟨rfl, rfl⟩, IsPart.at [] [0] base1 (H.c .nil) (E.c .nil)⟩
  ·
   have hb3 := hb
   try simp only [hS, hE, ne_eq] at hb
   first | rw [if_pos hb3] at h | rw [if_neg (Bool.eq_false_iff.1 hb3)] at h | rw [if_pos hb] at h | rw [if_neg hb] at h | (simp only [hb, hT, reduceIte] at h) | skip
   repeat (first | (rw [iN] at h; obtain ⟨_, h⟩ := h) | (rw [iP] at h; obtain ⟨_, h⟩ := h) | (simp only [bS] at h))
   refine AWp.skip ?_
   refine AWp.seq ?_
   refine W.kp [0, 1, 4, 5, 7, 11] ?_
   refine AWp.region ?_
   refine L.Y Y.mv ?_
   refine L.Y Y.mv ?_
   refine L.Y Y.bin ?_
   refine L.Y Y.asg ?_
   refine AList.nil ?_
   simp only [Option.some.injEq, Prod.mk.injEq] at h
   obtain ⟨rfl, rfl, rfl⟩ := h
   refine AWp.ret ?_
   exact ⟨.inr rfl, [(4, _)], _, ⟨rfl, rfl⟩, IsPart.at [] [0] base1 (H.c .nil) (E.c .nil)⟩

/-! ### spec_l1Cur_among: function 52 -/
def spec_l1Cur_among.f (s0_0 : List Int) (s0_1 : Int) (s0_2 : Int) (l1 : List Int) : Option (Int × Int × Int) := (spec_l1Cur_pick.f s0_0 s0_1 s0_2 (l1.length : Int)).bind fun bt230 => (if 0 ≤ bt230.1 then (if bt230.1 < (l1.length : Int) then (some (rd l1 bt230.1, bt230.2.1, bt230.2.2)) else (none)) else (none))
set_option maxRecDepth 100000 in
set_option maxHeartbeats 20000000 in
theorem spec_l1Cur_among.ac (s0_0 : List Int) (s0_1 : Int) (s0_2 : Int) (l1 : List Int) (r1 : Int) (r2 : Int) (r3 : Int) (h : spec_l1Cur_among.f s0_0 s0_1 s0_2 l1 = some (r1, r2, r3)) :
  ACalls Try.prog 52 [.ptr 0 0, .row 1 l1.length false (ints .i64 l1)] [.bx 65 [.row 1 s0_0.length false (ints .u8 s0_0), .lit (.int .i64 s0_1), .lit (.int .u64 s0_2)]] (fun v H' => v = .lit (.int .i64 r1) ∧ H' = [.bx 65 [.row 1 s0_0.length false (ints .u8 s0_0), .lit (.int .i64 r2), .lit (.int .u64 r3)]]) := by
 refine ACalls.ofP [4] Try.func52 rfl (by exact Nat.le_of_ble_eq_true rfl) rfl (by decide) ?_
 simp only [Try.ntmps52, env0, spec_l1Cur_among.f] at h ⊢
 refine AWp.seq ?_
 refine AWp.region ?_
 refine L.Y Y.asg ?_
 refine AList.nil ?_
 refine AWp.seq ?_
 refine AWp.region ?_
 refine L.Y Y.mv ?_
 refine L.Y Y.mv ?_
 refine L.Y Y.mv ?_
 refine L.Y (Y.ln Try.underlying22) ?_
 replace h := Option.bind_eq_some_iff.1 h
 obtain ⟨⟨t230, t231, t232⟩, hc1, h⟩ := h
 dsimp only at h
 repeat (first | (rw [iN] at h; obtain ⟨_, h⟩ := h) | (rw [iP] at h; obtain ⟨_, h⟩ := h) | (simp only [bS] at h))
 refine L.C (C.callE (l := false) [0] Try.func53 (spec_l1Cur_pick.ac _ _ _ _ _ _ _ hc1) (H.c .nil) ?_)
 refine L.Y (Y.ixr Try.underlying22 Y3) ?_
 refine L.S (S.ld Try.underlying3) ?_
 refine L.Y Y.asg ?_
 refine AList.nil ?_
 simp only [Option.some.injEq, Prod.mk.injEq] at h
 obtain ⟨rfl, rfl, rfl⟩ := h
 refine AWp.ret ?_
 exact ⟨.inr rfl, [(4, _)], _, ⟨rfl, rfl⟩, IsPart.at [] [0] base1 (H.c .nil) (E.c .nil)⟩

/-! ### spec_l1Cur_one: function 54 -/
def spec_l1Cur_one.f (s0_0 : List Int) (s0_1 : Int) (s0_2 : Int) (a1 : Int) : Option (Bool × Int × Int) := (spec_l1Cur_pick.f s0_0 s0_1 s0_2 a1).bind fun bt234 => (some ((bt234.1 == 0), bt234.2.1, bt234.2.2))
set_option maxRecDepth 100000 in
set_option maxHeartbeats 20000000 in
theorem spec_l1Cur_one.ac (s0_0 : List Int) (s0_1 : Int) (s0_2 : Int) (a1 : Int) (r1 : Bool) (r2 : Int) (r3 : Int) (h : spec_l1Cur_one.f s0_0 s0_1 s0_2 a1 = some (r1, r2, r3)) :
  ACalls Try.prog 54 [.ptr 0 0, .lit (.int .i64 a1)] [.bx 65 [.row 1 s0_0.length false (ints .u8 s0_0), .lit (.int .i64 s0_1), .lit (.int .u64 s0_2)]] (fun v H' => v = .lit (.bool r1) ∧ H' = [.bx 65 [.row 1 s0_0.length false (ints .u8 s0_0), .lit (.int .i64 r2), .lit (.int .u64 r3)]]) := by
 refine ACalls.ofP [4] Try.func54 rfl (by exact Nat.le_of_ble_eq_true rfl) rfl (by decide) ?_
 simp only [Try.ntmps54, env0, spec_l1Cur_one.f] at h ⊢
 refine AWp.seq ?_
 refine AWp.region ?_
 refine L.Y Y.asg ?_
 refine AList.nil ?_
 refine AWp.seq ?_
 refine AWp.region ?_
 refine L.Y Y.mv ?_
 refine L.Y Y.mv ?_
 replace h := Option.bind_eq_some_iff.1 h
 obtain ⟨⟨t234, t235, t236⟩, hc1, h⟩ := h
 dsimp only at h
 refine L.C (C.callE (l := false) [0] Try.func53 (spec_l1Cur_pick.ac _ _ _ _ _ _ _ hc1) (H.c .nil) ?_)
 refine L.Y Y.bin ?_
 refine L.Y Y.asg ?_
 refine AList.nil ?_
 simp only [Option.some.injEq, Prod.mk.injEq] at h
 obtain ⟨rfl, rfl, rfl⟩ := h
 refine AWp.ret ?_
 exact ⟨.inr rfl, [(4, _)], _, ⟨rfl, rfl⟩, IsPart.at [] [0] base1 (H.c .nil) (E.c .nil)⟩

end Go.Proofs.Ytakabmokpknknaa.PFnBiordersHaveScales
