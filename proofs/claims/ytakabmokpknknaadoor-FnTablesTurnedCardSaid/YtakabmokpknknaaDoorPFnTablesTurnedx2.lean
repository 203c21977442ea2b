-- Written by a program of this session's (wip/myprint2): the functions by the kit's print, the walks by awgen.py. Lean checks it.
import Derived.Test.YtakabmokpknknaaDoorPFnTablesTurnedx0
import Derived.Test.YtakabmokpknknaaDoorPFnTablesTurnedx1
namespace Go.Proofs.YtakabmokpknknaaDoor.PFnTablesTurned
open Go.RowKit Go.Proofs.YtakabmokpknknaaDoorW.PrintWords Go.Proofs.YtakabmokpknknaaDoorW.PrintLast Go.Proofs.YtakabmokpknknaaDoorW.PrintMore Go.Proofs.YtakabmokpknknaaDoorM Go.Proofs.YtakabmokpknknaaDoorA Go.Proofs.YtakabmokpknknaaDoorT
attribute [local go_sem] max2_int min2_int max_two min_two max_three min_three max_four min_four   -- for this text's walks alone
set_option linter.unusedVariables false
set_option linter.unusedSimpArgs false

/-! ### spec_TableOfScales: function 166 -/
mutual
def spec_TableOfScales.j0 : Nat → List Int → List Int → Bool → Option (Int × Int × List Int × Bool)
 | 0, _, _, _ => none
 | k + 1, x0, x1, x31 => if x31 = true then (some (0, 0, ([] : List Int), false)) else (spec_TableOfScales.l0 k x1 x0 (x0.length : Int) 0 (x0.length : Int) (x1.length : Int) ([] : List Int))
def spec_TableOfScales.l0 : Nat → List Int → List Int → Int → Int → Int → Int → List Int → Option (Int × Int × List Int × Bool)
 | 0, _, _, _, _, _, _, _ => none
 | k + 1, x1, x38, x39, x40, x123000, x123001, x123002 => if x40 < x39 then (if 0 ≤ x40 then (if x40 < (x38.length : Int) then (spec_TableOfScales.l1 k x1 (rd x38 x40) 0 x38 x39 x40 x1 (x1.length : Int) 0 x123000 x123001 x123002) else (none)) else (none)) else (some (x123000, x123001, x123002, true))
def spec_TableOfScales.l1 : Nat → List Int → Int → Int → List Int → Int → Int → List Int → Int → Int → Int → Int → List Int → Option (Int × Int × List Int × Bool)
 | 0, _, _, _, _, _, _, _, _, _, _, _, _ => none
 | k + 1, x1, x8, x9, x38, x39, x40, x44, x45, x46, x123000, x123001, x123002 => if x46 < x45 then (if 0 ≤ x46 then (if x46 < (x44.length : Int) then (if x8 ≥ (rd x44 x46) then (spec_TableOfScales.l1 k x1 x8 (Go.bits .or .i64 x9 (shl .i64 1 x46)) x38 x39 x40 x44 x45 (wrap64 (x46 + 1)) x123000 x123001 x123002) else (spec_TableOfScales.l1 k x1 x8 x9 x38 x39 x40 x44 x45 (wrap64 (x46 + 1)) x123000 x123001 x123002)) else (none)) else (none)) else (if x123002.length < 17592186044416 then (spec_TableOfScales.l0 k x1 x38 x39 (wrap64 (x40 + 1)) x123000 x123001 (x123002 ++ [x9])) else (none))
end
def spec_TableOfScales.f (k : Nat) (l0 : List Int) (l1 : List Int) : Option (Int × Int × List Int × Bool) := (spec_l1In.f (l0.length : Int) 1 6).bind fun t118 => (if t118 = true then ((spec_l1In.f (l1.length : Int) 1 6).bind fun t119 => (if t119 = true then ((spec_l1All.f k l0 0 99).bind fun t120 => (if t120 = true then ((spec_l1All.f k l1 0 99).bind fun t121 => (spec_TableOfScales.j0 k l0 l1 (!t121))) else (spec_TableOfScales.j0 k l0 l1 true))) else (spec_TableOfScales.j0 k l0 l1 true))) else (spec_TableOfScales.j0 k l0 l1 true))
set_option maxRecDepth 100000 in
set_option maxHeartbeats 20000000 in
theorem spec_TableOfScales.ac (k : Nat) (l0 : List Int) (l1 : List Int) (r1 : Int) (r2 : Int) (r3 : List Int) (r4 : Bool) (h : spec_TableOfScales.f k l0 l1 = some (r1, r2, r3, r4)) :
  ACalls Tryd.prog 166 [.row 1 l0.length false (ints .i64 l0), .row 1 l1.length false (ints .i64 l1)] [] (fun v H' => v = .tup [.agg [.lit (.int .i64 r1), .lit (.int .i64 r2), .own 0 r3.length], .lit (.bool r4)] ∧ H' = [.sl 3 1 r3.length false (ints .i64 r3)]) := by
 refine ACalls.ofV Tryd.func166 rfl (by exact Nat.le_of_ble_eq_true rfl) ?_
 simp only [Tryd.ntmps166, env0, spec_TableOfScales.f] at h ⊢
 refine AWp.seq ?_
 refine AWp.region ?_
 refine L.M (M.al Y59) ?_
 refine L.Y Y.asg ?_
 refine AList.nil ?_
 refine AWp.seq ?_
 refine AWp.seq ?_
 refine AWp.region ?_
 refine L.Y Y.mv ?_
 refine L.Y (Y.ln Tryd.underlying22) ?_
 replace h := Option.bind_eq_some_iff.1 h
 obtain ⟨t118, hc1, h⟩ := h
 refine L.C (C.callE (l := true) [] Tryd.func148 (spec_l1In.ac _ _ _ _ hc1) .nil ?_)
 refine L.Y Y.nt ?_
 refine L.Y Y.mv ?_
 refine L.Gc (fun hb => ?_) (fun hb => ?_)
 ·
  have hb2 := hb
  try simp only [hS, hE, ne_eq] at hb
  first | rw [if_pos hb2] at h | rw [if_neg (Bool.eq_false_iff.1 hb2)] at h | rw [if_pos hb] at h | rw [if_neg hb] at h | (simp only [hb, hT, reduceIte] at h) | skip
  refine L.Gn hb2 ?_
  refine L.Gn hb2 ?_
  refine L.Gn hb2 ?_
  refine L.Gn hb2 ?_
  refine L.Y (Y.pk (c := true) hb2) ?_
  refine L.Y Y.mv ?_
  refine L.Gc (fun hb => ?_) (fun hb => ?_)
  rotate_left
  ·
   first | exact Bool.false_ne_true ((Eq.symm (by assumption)).trans hb) | exact Bool.false_ne_true (hb.symm.trans (by assumption)) | exact DD hb
  have hb3 := hb
  refine L.Gn hb3 ?_
  refine L.Gn hb3 ?_
  refine L.Gn hb3 ?_
  refine L.Y (Y.pk (c := true) hb3) ?_
  refine L.Y Y.mv ?_
  refine L.Gc (fun hb => ?_) (fun hb => ?_)
  rotate_left
  ·
   first | exact Bool.false_ne_true ((Eq.symm (by assumption)).trans hb) | exact Bool.false_ne_true (hb.symm.trans (by assumption)) | exact DD hb
  have hb4 := hb
  refine L.Gn hb4 ?_
  refine L.Gn hb4 ?_
  refine L.Gn hb4 ?_
  refine L.Y (Y.pk (c := true) hb4) ?_
  refine AList.nil ?_
  rcases k with _ | k
  ·
   exact absurd h (by simp [spec_TableOfScales.j0])
  simp only [spec_TableOfScales.j0] at h
  refine W.cond (fun hb => ?_) (fun hb => ?_)
  rotate_left
  ·
   first | exact Bool.false_ne_true ((Eq.symm (by assumption)).trans hb) | exact Bool.false_ne_true (hb.symm.trans (by assumption)) | exact DD hb
  have hb5 := hb
  try (first | rw [if_pos hb5] at h | rw [if_neg (Bool.eq_false_iff.1 hb5)] at h | rw [if_pos hb] at h | rw [if_neg hb] at h | (simp only [hb, hT, reduceIte] at h) | skip)
  refine AWp.seq ?_
  refine W.kp [0, 1, 4, 5, 31] ?_
  refine AWp.region ?_
  refine L.Y (Y.bd Tryd.underlying59 Y59 P59) ?_
  refine L.S (S.stb Y59) ?_
  refine L.Y Y.asg ?_
  refine AList.nil ?_
  simp only [Option.some.injEq, Prod.mk.injEq] at h
  obtain ⟨rfl, rfl, rfl, rfl⟩ := h
  refine AWp.ret ?_
  exact ⟨.inr rfl, _, _, _, Res.c2 Tryd.underlying59 Y59, ⟨rfl, rfl⟩, PartV.at [(3, 1)] [1] base0 (H.c .nil)⟩
 ·
  have hb2 := hb
  try simp only [hS, hE, ne_eq] at hb
  first | rw [if_pos hb2] at h | rw [if_neg (Bool.eq_false_iff.1 hb2)] at h | rw [if_pos hb] at h | rw [if_neg hb] at h | (simp only [hb, hT, reduceIte] at h) | skip
  refine L.Gy hb2 Y.mv ?_
  refine L.Gy hb2 (Y.ln Tryd.underlying22) ?_
  replace h := Option.bind_eq_some_iff.1 h
  obtain ⟨t119, hc6, h⟩ := h
  refine L.GC hb2 (C.callE (l := true) [] Tryd.func148 (spec_l1In.ac _ _ _ _ hc6) .nil ?_)
  refine L.Gy hb2 Y.nt ?_
  refine L.Y (Y.pk (c := false) hb2) ?_
  refine L.Y Y.mv ?_
  refine L.Gc (fun hb => ?_) (fun hb => ?_)
  ·
   have hb7 := hb
   try simp only [hS, hE, ne_eq] at hb
   first | rw [if_pos hb7] at h | rw [if_neg (Bool.eq_false_iff.1 hb7)] at h | rw [if_pos hb] at h | rw [if_neg hb] at h | (simp only [hb, hT, reduceIte] at h) | skip
   refine L.Gn hb7 ?_
   refine L.Gn hb7 ?_
   refine L.Gn hb7 ?_
   refine L.Y (Y.pk (c := true) hb7) ?_
   refine L.Y Y.mv ?_
   refine L.Gc (fun hb => ?_) (fun hb => ?_)
   rotate_left
   ·
    first | exact Bool.false_ne_true ((Eq.symm (by assumption)).trans hb) | exact Bool.false_ne_true (hb.symm.trans (by assumption)) | exact DD hb
   have hb8 := hb
   refine L.Gn hb8 ?_
   refine L.Gn hb8 ?_
   refine L.Gn hb8 ?_
   refine L.Y (Y.pk (c := true) hb8) ?_
   refine AList.nil ?_
   rcases k with _ | k
   ·
    exact absurd h (by simp [spec_TableOfScales.j0])
   simp only [spec_TableOfScales.j0] at h
   refine W.cond (fun hb => ?_) (fun hb => ?_)
   rotate_left
   ·
    first | exact Bool.false_ne_true ((Eq.symm (by assumption)).trans hb) | exact Bool.false_ne_true (hb.symm.trans (by assumption)) | exact DD hb
   have hb9 := hb
   try (first | rw [if_pos hb9] at h | rw [if_neg (Bool.eq_false_iff.1 hb9)] at h | rw [if_pos hb] at h | rw [if_neg hb] at h | (simp only [hb, hT, reduceIte] at h) | skip)
   refine AWp.seq ?_
   refine W.kp [0, 1, 4, 5, 31] ?_
   refine AWp.region ?_
   refine L.Y (Y.bd Tryd.underlying59 Y59 P59) ?_
   refine L.S (S.stb Y59) ?_
   refine L.Y Y.asg ?_
   refine AList.nil ?_
   simp only [Option.some.injEq, Prod.mk.injEq] at h
   obtain ⟨rfl, rfl, rfl, rfl⟩ := h
   refine AWp.ret ?_
   exact ⟨.inr rfl, _, _, _, Res.c2 Tryd.underlying59 Y59, ⟨rfl, rfl⟩, PartV.at [(3, 1)] [1] base0 (H.c .nil)⟩
  ·
   have hb7 := hb
   try simp only [hS, hE, ne_eq] at hb
   first | rw [if_pos hb7] at h | rw [if_neg (Bool.eq_false_iff.1 hb7)] at h | rw [if_pos hb] at h | rw [if_neg hb] at h | (simp only [hb, hT, reduceIte] at h) | skip
   refine L.Gy hb7 Y.mv ?_
   replace h := Option.bind_eq_some_iff.1 h
   obtain ⟨t120, hc10, h⟩ := h
   refine L.GC hb7 (C.callE (l := true) [] Tryd.func149 (spec_l1All.ac _ _ _ _ _ hc10) .nil ?_)
   refine L.Gy hb7 Y.nt ?_
   refine L.Y (Y.pk (c := false) hb7) ?_
   refine L.Y Y.mv ?_
   refine L.Gc (fun hb => ?_) (fun hb => ?_)
   ·
    have hb11 := hb
    try simp only [hS, hE, ne_eq] at hb
    first | rw [if_pos hb11] at h | rw [if_neg (Bool.eq_false_iff.1 hb11)] at h | rw [if_pos hb] at h | rw [if_neg hb] at h | (simp only [hb, hT, reduceIte] at h) | skip
    refine L.Gn hb11 ?_
    refine L.Gn hb11 ?_
    refine L.Gn hb11 ?_
    refine L.Y (Y.pk (c := true) hb11) ?_
    refine AList.nil ?_
    rcases k with _ | k
    ·
     exact absurd h (by simp [spec_TableOfScales.j0])
    simp only [spec_TableOfScales.j0] at h
    refine W.cond (fun hb => ?_) (fun hb => ?_)
    rotate_left
    ·
     first | exact Bool.false_ne_true ((Eq.symm (by assumption)).trans hb) | exact Bool.false_ne_true (hb.symm.trans (by assumption)) | exact DD hb
    have hb12 := hb
    try (first | rw [if_pos hb12] at h | rw [if_neg (Bool.eq_false_iff.1 hb12)] at h | rw [if_pos hb] at h | rw [if_neg hb] at h | (simp only [hb, hT, reduceIte] at h) | skip)
    refine AWp.seq ?_
    refine W.kp [0, 1, 4, 5, 31] ?_
    refine AWp.region ?_
    refine L.Y (Y.bd Tryd.underlying59 Y59 P59) ?_
    refine L.S (S.stb Y59) ?_
    refine L.Y Y.asg ?_
    refine AList.nil ?_
    simp only [Option.some.injEq, Prod.mk.injEq] at h
    obtain ⟨rfl, rfl, rfl, rfl⟩ := h
    refine AWp.ret ?_
    exact ⟨.inr rfl, _, _, _, Res.c2 Tryd.underlying59 Y59, ⟨rfl, rfl⟩, PartV.at [(3, 1)] [1] base0 (H.c .nil)⟩
   ·
    have hb11 := hb
    try simp only [hS, hE, ne_eq] at hb
    first | rw [if_pos hb11] at h | rw [if_neg (Bool.eq_false_iff.1 hb11)] at h | rw [if_pos hb] at h | rw [if_neg hb] at h | (simp only [hb, hT, reduceIte] at h) | skip
    refine L.Gy hb11 Y.mv ?_
    replace h := Option.bind_eq_some_iff.1 h
    obtain ⟨t121, hc13, h⟩ := h
    refine L.GC hb11 (C.callE (l := true) [] Tryd.func149 (spec_l1All.ac _ _ _ _ _ hc13) .nil ?_)
    refine L.Gy hb11 Y.nt ?_
    refine L.Y (Y.pk (c := false) hb11) ?_
    refine AList.nil ?_
    rcases k with _ | k
    ·
     exact absurd h (by simp [spec_TableOfScales.j0])
    simp only [spec_TableOfScales.j0] at h
    refine W.cond (fun hb => ?_) (fun hb => ?_)
    ·
     have hb14 := hb
     try simp only [hS, hE, ne_eq] at hb
     first | rw [if_pos hb14] at h | rw [if_neg (Bool.eq_false_iff.1 hb14)] at h | rw [if_pos hb] at h | rw [if_neg hb] at h | (simp only [hb, hT, reduceIte] at h) | skip
     refine AWp.seq ?_
     refine W.kp [0, 1, 4, 5, 31] ?_
     refine AWp.region ?_
     refine L.Y (Y.bd Tryd.underlying59 Y59 P59) ?_
     refine L.S (S.stb Y59) ?_
     refine L.Y Y.asg ?_
     refine AList.nil ?_
     simp only [Option.some.injEq, Prod.mk.injEq] at h
     obtain ⟨rfl, rfl, rfl, rfl⟩ := h
     refine AWp.ret ?_
     exact ⟨.inr rfl, _, _, _, Res.c2 Tryd.underlying59 Y59, ⟨rfl, rfl⟩, PartV.at [(3, 1)] [1] base0 (H.c .nil)⟩
    ·
     have hb14 := hb
     try simp only [hS, hE, ne_eq] at hb
     first | rw [if_pos hb14] at h | rw [if_neg (Bool.eq_false_iff.1 hb14)] at h | rw [if_pos hb] at h | rw [if_neg hb] at h | (simp only [hb, hT, reduceIte] at h) | skip
     refine AWp.skip ?_
     refine AWp.seq ?_
     refine W.kp [0, 1, 4, 5, 31] ?_
     refine AWp.region ?_
     refine L.Y Y.mv ?_
     refine L.Y (Y.ln Tryd.underlying22) ?_
     refine L.Y Y.mv ?_
     refine L.Y (Y.ln Tryd.underlying22) ?_
     refine L.Y (Y.bd Tryd.underlying59 Y59 P59) ?_
     refine L.M (M.al Y59) ?_
     refine L.S (S.stb Y59) ?_
     refine AList.nil ?_
     refine AWp.seq ?_
     refine AWp.seq ?_
     refine W.kp [0, 1, 4, 5, 6, 31] ?_
     refine AWp.region ?_
     refine L.Y Y.mv ?_
     refine L.Y (Y.ln Tryd.underlying22) ?_
     refine L.Y Y.mv ?_
     refine AList.nil ?_
     refine AWp.block ?_
     refine AWp.loopI (fun kk e H => kk ≤ k ∧ ∃ (x39 : Int) (x40 : Int) (x118000 : Int) (x118001 : Int) (x123000 : Int) (x123001 : Int) (x123002 : List Int), e = [(1, .row 1 l1.length false (ints .i64 l1)), (4, .ptr 0 0), (6, .ptr 1 0), (38, .row 1 l0.length false (ints .i64 l0)), (39, .lit (.int .i64 x39)), (40, .lit (.int .i64 x40))] ∧ H = [.bx 59 [.lit (.int .i64 x118000), .lit (.int .i64 x118001), .lit (.slice none 0 0)], .bx 59 [.lit (.int .i64 x123000), .lit (.int .i64 x123001), .own 2 x123002.length], .sl 3 1 x123002.length false (ints .i64 x123002)] ∧ spec_TableOfScales.l0 kk l1 l0 x39 x40 x123000 x123001 x123002 = some (r1, r2, r3, r4)) (k := k)
      ⟨_, _, ⟨Nat.le_refl _, _, _, _, _, _, _, _, rfl, rfl, h⟩, IsPart.at [(3, 1)] [0, 1, 2] base0 (H.c (H.c (H.c .nil))) (E.c (E.c (E.c (E.c (E.c (E.c .nil))))))⟩ ?_
     clear h
     rintro k15 e H ⟨hk16, x39, x40, x118000, x118001, x123000, x123001, x123002, rfl, rfl, h⟩
     cases k15 with
     | zero => exact absurd h (by simp [spec_TableOfScales.l0])
     | succ k15 =>
     simp only [spec_TableOfScales.l0] at h
     refine AWp.seq ?_
     refine AWp.region ?_
     refine L.Y Y.bin ?_
     refine AList.nil ?_
     refine AWp.seq ?_
     refine W.cond (fun hb => ?_) (fun hb => ?_)
     ·
      have hb17 := hb
      try simp only [hS, hE, ne_eq] at hb
      first | rw [if_pos hb17] at h | rw [if_neg (Bool.eq_false_iff.1 hb17)] at h | rw [if_pos hb] at h | rw [if_neg hb] at h | (simp only [hb, hT, reduceIte] at h) | skip
      repeat (first | (rw [iN] at h; obtain ⟨_, h⟩ := h) | (rw [iP] at h; obtain ⟨_, h⟩ := h) | (simp only [bS] at h))
      refine AWp.skip ?_
      refine AWp.seq ?_
      refine AWp.block ?_
      refine AWp.seq ?_
      refine AWp.region ?_
      refine L.Y (Y.ixr Tryd.underlying22 Y3) ?_
      refine L.S (S.ld Tryd.underlying3) ?_
      refine L.Y Y.asg ?_
      refine AList.nil ?_
      refine AWp.seq ?_
      refine AWp.region ?_
      refine L.Y Y.asg ?_
      refine AList.nil ?_
      refine AWp.seq ?_
      refine AWp.seq ?_
      refine AWp.region ?_
      refine L.Y Y.mv ?_
      refine L.Y (Y.ln Tryd.underlying22) ?_
      refine L.Y Y.mv ?_
      refine AList.nil ?_
      refine AWp.block ?_
      refine AWp.loopI (fun kk e H => kk ≤ k15 ∧ ∃ (x8 : Int) (x9 : Int) (x39 : Int) (x40 : Int) (x45 : Int) (x46 : Int) (x118000 : Int) (x118001 : Int) (x123000 : Int) (x123001 : Int) (x123002 : List Int), e = [(1, .row 1 l1.length false (ints .i64 l1)), (4, .ptr 0 0), (6, .ptr 1 0), (8, .lit (.int .i64 x8)), (9, .lit (.int .i64 x9)), (38, .row 1 l0.length false (ints .i64 l0)), (39, .lit (.int .i64 x39)), (40, .lit (.int .i64 x40)), (44, .row 1 l1.length false (ints .i64 l1)), (45, .lit (.int .i64 x45)), (46, .lit (.int .i64 x46))] ∧ H = [.bx 59 [.lit (.int .i64 x118000), .lit (.int .i64 x118001), .lit (.slice none 0 0)], .bx 59 [.lit (.int .i64 x123000), .lit (.int .i64 x123001), .own 2 x123002.length], .sl 3 1 x123002.length false (ints .i64 x123002)] ∧ spec_TableOfScales.l1 kk l1 x8 x9 l0 x39 x40 l1 x45 x46 x123000 x123001 x123002 = some (r1, r2, r3, r4)) (k := k15)
       ⟨_, _, ⟨Nat.le_refl _, _, _, _, _, _, _, _, _, _, _, _, rfl, rfl, h⟩, IsPart.at [] [0, 1, 2] base0 (H.c (H.c (H.c .nil))) (E.c (E.c (E.c (E.c (E.c (E.c (E.c (E.c (E.c (E.c (E.c .nil)))))))))))⟩ ?_
      clear h
      rintro k18 e H ⟨hk19, x8, x9, x39, x40, x45, x46, x118000, x118001, x123000, x123001, x123002, rfl, rfl, h⟩
      cases k18 with
      | zero => exact absurd h (by simp [spec_TableOfScales.l1])
      | succ k18 =>
      simp only [spec_TableOfScales.l1] at h
      refine AWp.seq ?_
      refine AWp.region ?_
      refine L.Y Y.bin ?_
      refine AList.nil ?_
      refine AWp.seq ?_
      refine W.cond (fun hb => ?_) (fun hb => ?_)
      ·
       have hb20 := hb
       try simp only [hS, hE, ne_eq] at hb
       first | rw [if_pos hb20] at h | rw [if_neg (Bool.eq_false_iff.1 hb20)] at h | rw [if_pos hb] at h | rw [if_neg hb] at h | (simp only [hb, hT, reduceIte] at h) | skip
       repeat (first | (rw [iN] at h; obtain ⟨_, h⟩ := h) | (rw [iP] at h; obtain ⟨_, h⟩ := h) | (simp only [bS] at h))
       refine AWp.skip ?_
       refine AWp.seq ?_
       refine AWp.block ?_
       refine AWp.seq ?_
       refine AWp.region ?_
       refine L.Y Y.mv ?_
       refine L.Y (Y.ixr Tryd.underlying22 Y3) ?_
       refine L.S (S.ld Tryd.underlying3) ?_
       refine L.Y Y.asg ?_
       refine L.Y Y.asg ?_
       refine AList.nil ?_
       refine AWp.seq ?_
       refine AWp.region ?_
       refine L.Y Y.mv ?_
       refine L.Y Y.mv ?_
       refine L.Y Y.bin ?_
       refine AList.nil ?_
       refine W.cond (fun hb => ?_) (fun hb => ?_)
       ·
        have hb21 := hb
        try simp only [hS, hE, ne_eq] at hb
        first | rw [if_pos hb21] at h | rw [if_neg (Bool.eq_false_iff.1 hb21)] at h | rw [if_pos hb] at h | rw [if_neg hb] at h | (simp only [hb, hT, reduceIte] at h) | skip
        refine W.kp [1, 4, 6, 8, 9, 10, 11, 38, 39, 40, 44, 45, 46, 47, 53] ?_
        refine AWp.region ?_
        refine L.Y Y.mv ?_
        refine L.Y Y.mv ?_
        refine L.Y Y.bin ?_
        refine L.Y Y.bin ?_
        refine L.Y Y.asg ?_
        refine AList.nil ?_
        refine W.kp [1, 4, 6, 8, 9, 10, 11, 38, 39, 40, 44, 45, 46, 47, 53] ?_
        refine AWp.region ?_
        refine L.Y Y.bin ?_
        refine L.Y Y.mv ?_
        refine AList.nil ?_
        exact ⟨k18, by omega, _, _, ⟨by omega, _, _, _, _, _, _, _, _, _, _, _, rfl, rfl, h⟩, IsPart.at [] [0, 1, 2] base0 (H.c (H.c (H.c .nil))) (E.c (E.c (E.c (E.c (E.c (E.c (E.c (E.c (E.c (E.c (E.c .nil)))))))))))⟩
       ·
        have hb21 := hb
        try simp only [hS, hE, ne_eq] at hb
        first | rw [if_pos hb21] at h | rw [if_neg (Bool.eq_false_iff.1 hb21)] at h | rw [if_pos hb] at h | rw [if_neg hb] at h | (simp only [hb, hT, reduceIte] at h) | skip
        refine AWp.skip ?_
        refine W.kp [1, 4, 6, 8, 9, 10, 11, 38, 39, 40, 44, 45, 46, 47, 53] ?_
        refine AWp.region ?_
        refine L.Y Y.bin ?_
        refine L.Y Y.mv ?_
        refine AList.nil ?_
        exact ⟨k18, by omega, _, _, ⟨by omega, _, _, _, _, _, _, _, _, _, _, _, rfl, rfl, h⟩, IsPart.at [] [0, 1, 2] base0 (H.c (H.c (H.c .nil))) (E.c (E.c (E.c (E.c (E.c (E.c (E.c (E.c (E.c (E.c (E.c .nil)))))))))))⟩
      ·
       have hb20 := hb
       try simp only [hS, hE, ne_eq] at hb
       first | rw [if_pos hb20] at h | rw [if_neg (Bool.eq_false_iff.1 hb20)] at h | rw [if_pos hb] at h | rw [if_neg hb] at h | (simp only [hb, hT, reduceIte] at h) | skip
       repeat (first | (rw [iN] at h; obtain ⟨_, h⟩ := h) | (rw [iP] at h; obtain ⟨_, h⟩ := h) | (simp only [bS] at h))
       refine AWp.exit ?_
       refine AWp.region ?_
       refine L.Y (Y.fa (off := 2) Tryd.underlying59 Y22) ?_
       refine L.S (S.ld Tryd.underlying22) ?_
       refine L.Y Y.mv ?_
       refine L.M (M.bs Tryd.underlying22 Y3) ?_
       refine L.S (S.ap (nn' := false) Tryd.underlying22 Y3) ?_
       refine L.Y (Y.fa (off := 2) Tryd.underlying59 Y22) ?_
       refine L.S (S.stb Y22) ?_
       refine AList.nil ?_
       refine W.kp [1, 4, 6, 8, 9, 38, 39, 40, 44, 45, 46, 47] ?_
       refine AWp.region ?_
       refine L.Y Y.bin ?_
       refine L.Y Y.mv ?_
       refine AList.nil ?_
       exact ⟨k18, by omega, _, _, ⟨by omega, _, _, _, _, _, _, _, rfl, rfl, h⟩, IsPart.at [] [0, 1, 2] base0 (H.c (H.c (H.c .nil))) (E.c (E.c (E.c (E.c (E.c (E.c .nil))))))⟩
     ·
      have hb17 := hb
      try simp only [hS, hE, ne_eq] at hb
      first | rw [if_pos hb17] at h | rw [if_neg (Bool.eq_false_iff.1 hb17)] at h | rw [if_pos hb] at h | rw [if_neg hb] at h | (simp only [hb, hT, reduceIte] at h) | skip
      refine AWp.exit ?_
      refine AWp.seq ?_
      refine AWp.region ?_
      refine L.S (S.ldN Tryd.underlying59 Y59) ?_
      refine L.S (S.stb Y59) ?_
      refine L.Y Y.asg ?_
      refine AList.nil ?_
      simp only [Option.some.injEq, Prod.mk.injEq] at h
      obtain ⟨rfl, rfl, rfl, rfl⟩ := h
      refine AWp.ret ?_
      exact ⟨.inr rfl, _, _, _, Res.c2 Tryd.underlying59 Y59, ⟨rfl, rfl⟩, PartV.at [] [2] base0 (H.c .nil)⟩

end Go.Proofs.YtakabmokpknknaaDoor.PFnTablesTurned
