-- Written by a program of this session's (wip/myprint2): the functions by the kit's print, the walks by awgen.py. Lean checks it.
import Derived.Test.YtpippjgphndjmaaDoorPFnOrdersAsTablesx0
import Derived.Test.YtpippjgphndjmaaDoorPFnOrdersAsTablesx1
namespace Go.Proofs.YtpippjgphndjmaaDoor.PFnOrdersAsTables
open Go.RowKit Go.Proofs.YtpippjgphndjmaaDoorW.PrintWords Go.Proofs.YtpippjgphndjmaaDoorW.PrintLast Go.Proofs.YtpippjgphndjmaaDoorW.PrintMore Go.Proofs.YtpippjgphndjmaaDoorM Go.Proofs.YtpippjgphndjmaaDoorA Go.Proofs.YtpippjgphndjmaaDoorT
attribute [local go_sem] max2_int min2_int max_two min_two max_three min_three max_four min_four   -- for this text's walks alone
set_option linter.unusedVariables false
set_option linter.unusedSimpArgs false

/-! ### spec_TableOfOrder: function 11 -/
mutual
def spec_TableOfOrder.j0 : Nat → List Int → List Int → Bool → Int → List Int → Option (Int × Int × List Int × Bool)
 | 0, _, _, _, _, _ => none
 | k + 1, x1, x2, x44, x123000, x123001 => if x44 = true then (some (0, 0, ([] : List Int), false)) else (spec_TableOfOrder.l0 k x2 x1 (x1.length : Int) 0 x123000 x123001 (x1.length : Int) (x2.length : Int) ([] : List Int))
def spec_TableOfOrder.l0 : Nat → List Int → List Int → Int → Int → Int → List Int → Int → Int → List Int → Option (Int × Int × List Int × Bool)
 | 0, _, _, _, _, _, _, _, _, _ => none
 | k + 1, x2, x51, x52, x53, x123000, x123001, x130000, x130001, x130002 => if x53 < x52 then (if 0 ≤ x53 then (if x53 < (x51.length : Int) then (spec_TableOfOrder.l1 k x2 (rd x51 x53) 0 x51 x52 x53 x2 (x2.length : Int) 0 x123000 x123001 x130000 x130001 x130002) else (none)) else (none)) else (some (x130000, x130001, x130002, true))
def spec_TableOfOrder.l1 : Nat → List Int → Int → Int → List Int → Int → Int → List Int → Int → Int → Int → List Int → Int → Int → List Int → Option (Int × Int × List Int × Bool)
 | 0, _, _, _, _, _, _, _, _, _, _, _, _, _, _ => none
 | k + 1, x2, x10, x11, x51, x52, x53, x57, x58, x59, x123000, x123001, x130000, x130001, x130002 => if x59 < x58 then (if 0 ≤ x59 then (if x59 < (x57.length : Int) then (if 0 ≤ x10 then (if x10 < (x123001.length : Int) then ((spec_orHas.f (rd x123001 x10) (rd x57 x59)).bind fun t133 => (if t133 = true then (spec_TableOfOrder.l1 k x2 x10 (Go.bits .or .i64 x11 (shl .i64 1 x59)) x51 x52 x53 x57 x58 (wrap64 (x59 + 1)) x123000 x123001 x130000 x130001 x130002) else (spec_TableOfOrder.l1 k x2 x10 x11 x51 x52 x53 x57 x58 (wrap64 (x59 + 1)) x123000 x123001 x130000 x130001 x130002))) else (none)) else (none)) else (none)) else (none)) else (if x130002.length < 17592186044416 then (spec_TableOfOrder.l0 k x2 x51 x52 (wrap64 (x53 + 1)) x123000 x123001 x130000 x130001 (x130002 ++ [x11])) else (none))
end
def spec_TableOfOrder.f (k : Nat) (a0_0 : Int) (l0_1 : List Int) (l1 : List Int) (l2 : List Int) : Option (Int × Int × List Int × Bool) := (spec_orGood.f k a0_0 l0_1).bind fun t124 => (if t124 = true then ((spec_l1In.f (l1.length : Int) 1 6).bind fun t125 => (if t125 = true then ((spec_l1In.f (l2.length : Int) 1 6).bind fun t126 => (if t126 = true then ((spec_l1Rising.f k l1 0 (wrap64 (a0_0 - 1))).bind fun t127 => (if t127 = true then ((spec_l1Rising.f k l2 0 (wrap64 (a0_0 - 1))).bind fun t128 => (spec_TableOfOrder.j0 k l1 l2 (!t128) a0_0 l0_1)) else (spec_TableOfOrder.j0 k l1 l2 true a0_0 l0_1))) else (spec_TableOfOrder.j0 k l1 l2 true a0_0 l0_1))) else (spec_TableOfOrder.j0 k l1 l2 true a0_0 l0_1))) else (spec_TableOfOrder.j0 k l1 l2 true a0_0 l0_1))
set_option maxRecDepth 100000 in
set_option maxHeartbeats 20000000 in
theorem spec_TableOfOrder.ac (k : Nat) (a0_0 : Int) (l0_1 : List Int) (l1 : List Int) (l2 : List Int) (r1 : Int) (r2 : Int) (r3 : List Int) (r4 : Bool) (h : spec_TableOfOrder.f k a0_0 l0_1 l1 l2 = some (r1, r2, r3, r4)) :
  ACalls Tryd.prog 11 [.agg [.lit (.int .i64 a0_0), .row 1 l0_1.length false (ints .i64 l0_1)], .row 1 l1.length false (ints .i64 l1), .row 1 l2.length false (ints .i64 l2)] [] (fun v H' => v = .tup [.agg [.lit (.int .i64 r1), .lit (.int .i64 r2), .own 0 r3.length], .lit (.bool r4)] ∧ H' = [.sl 3 1 r3.length false (ints .i64 r3)]) := by
 refine ACalls.ofV Tryd.func11 rfl (by exact Nat.le_of_ble_eq_true rfl) ?_
 simp only [Tryd.ntmps11, env0, spec_TableOfOrder.f] at h ⊢
 refine AWp.seq ?_
 refine AWp.region ?_
 refine L.M M.bx ?_
 refine L.M (M.al Y27) ?_
 refine L.Y Y.asg ?_
 refine AList.nil ?_
 refine AWp.seq ?_
 refine AWp.seq ?_
 refine AWp.region ?_
 refine L.S (S.ldN Tryd.underlying30 Y30) ?_
 replace h := Option.bind_eq_some_iff.1 h
 obtain ⟨t124, hc1, h⟩ := h
 refine L.C (C.callE (l := true) [] Tryd.func64 (spec_orGood.ac _ _ _ _ hc1) .nil ?_)
 refine L.Y Y.nt ?_
 refine L.Y Y.mv ?_
 refine L.Gc (fun hb => ?_) (fun hb => ?_)
 ·
  have hb2 := hb
  try simp only [hS, hE, ne_eq] at hb
  first | rw [if_pos hb2] at h | rw [if_neg (Bool.eq_false_iff.1 hb2)] at h | rw [if_pos hb] at h | rw [if_neg hb] at h | (simp only [hb, hT, reduceIte] at h) | skip
  refine L.Gn hb2 ?_
  refine L.Gn hb2 ?_
  refine L.Gn hb2 ?_
  refine L.Gn hb2 ?_
  refine L.Y (Y.pk (c := true) hb2) ?_
  refine L.Y Y.mv ?_
  refine L.Gc (fun hb => ?_) (fun hb => ?_)
  rotate_left
  ·
   first | exact Bool.false_ne_true ((Eq.symm (by assumption)).trans hb) | exact Bool.false_ne_true (hb.symm.trans (by assumption)) | exact DD hb
  have hb3 := hb
  refine L.Gn hb3 ?_
  refine L.Gn hb3 ?_
  refine L.Gn hb3 ?_
  refine L.Gn hb3 ?_
  refine L.Y (Y.pk (c := true) hb3) ?_
  refine L.Y Y.mv ?_
  refine L.Gc (fun hb => ?_) (fun hb => ?_)
  rotate_left
  ·
   first | exact Bool.false_ne_true ((Eq.symm (by assumption)).trans hb) | exact Bool.false_ne_true (hb.symm.trans (by assumption)) | exact DD hb
  have hb4 := hb
  refine L.Gn hb4 ?_
  refine L.Gn hb4 ?_
  refine L.Gn hb4 ?_
  refine L.Gn hb4 ?_
  refine L.Gn hb4 ?_
  refine L.Gn hb4 ?_
  refine L.Y (Y.pk (c := true) hb4) ?_
  refine L.Y Y.mv ?_
  refine L.Gc (fun hb => ?_) (fun hb => ?_)
  rotate_left
  ·
   first | exact Bool.false_ne_true ((Eq.symm (by assumption)).trans hb) | exact Bool.false_ne_true (hb.symm.trans (by assumption)) | exact DD hb
  have hb5 := hb
  refine L.Gn hb5 ?_
  refine L.Gn hb5 ?_
  refine L.Gn hb5 ?_
  refine L.Gn hb5 ?_
  refine L.Gn hb5 ?_
  refine L.Gn hb5 ?_
  refine L.Y (Y.pk (c := true) hb5) ?_
  refine AList.nil ?_
  rcases k with _ | k
  ·
   exact absurd h (by simp [spec_TableOfOrder.j0])
  simp only [spec_TableOfOrder.j0] at h
  refine W.cond (fun hb => ?_) (fun hb => ?_)
  rotate_left
  ·
   first | exact Bool.false_ne_true ((Eq.symm (by assumption)).trans hb) | exact Bool.false_ne_true (hb.symm.trans (by assumption)) | exact DD hb
  have hb6 := hb
  try (first | rw [if_pos hb6] at h | rw [if_neg (Bool.eq_false_iff.1 hb6)] at h | rw [if_pos hb] at h | rw [if_neg hb] at h | (simp only [hb, hT, reduceIte] at h) | skip)
  refine AWp.seq ?_
  refine W.kp [0, 1, 2, 3, 6, 7, 44] ?_
  refine AWp.region ?_
  refine L.Y (Y.bd Tryd.underlying27 Y27 P27) ?_
  refine L.S (S.stb Y27) ?_
  refine L.Y Y.asg ?_
  refine AList.nil ?_
  simp only [Option.some.injEq, Prod.mk.injEq] at h
  obtain ⟨rfl, rfl, rfl, rfl⟩ := h
  refine AWp.ret ?_
  exact ⟨.inr rfl, _, _, _, Res.c2 Tryd.underlying27 Y27, ⟨rfl, rfl⟩, PartV.at [(3, 1)] [2] base0 (H.c .nil)⟩
 ·
  have hb2 := hb
  try simp only [hS, hE, ne_eq] at hb
  first | rw [if_pos hb2] at h | rw [if_neg (Bool.eq_false_iff.1 hb2)] at h | rw [if_pos hb] at h | rw [if_neg hb] at h | (simp only [hb, hT, reduceIte] at h) | skip
  refine L.Gy hb2 Y.mv ?_
  refine L.Gy hb2 (Y.ln Tryd.underlying22) ?_
  replace h := Option.bind_eq_some_iff.1 h
  obtain ⟨t125, hc7, h⟩ := h
  refine L.GC hb2 (C.callE (l := true) [] Tryd.func65 (spec_l1In.ac _ _ _ _ hc7) .nil ?_)
  refine L.Gy hb2 Y.nt ?_
  refine L.Y (Y.pk (c := false) hb2) ?_
  refine L.Y Y.mv ?_
  refine L.Gc (fun hb => ?_) (fun hb => ?_)
  ·
   have hb8 := hb
   try simp only [hS, hE, ne_eq] at hb
   first | rw [if_pos hb8] at h | rw [if_neg (Bool.eq_false_iff.1 hb8)] at h | rw [if_pos hb] at h | rw [if_neg hb] at h | (simp only [hb, hT, reduceIte] at h) | skip
   refine L.Gn hb8 ?_
   refine L.Gn hb8 ?_
   refine L.Gn hb8 ?_
   refine L.Gn hb8 ?_
   refine L.Y (Y.pk (c := true) hb8) ?_
   refine L.Y Y.mv ?_
   refine L.Gc (fun hb => ?_) (fun hb => ?_)
   rotate_left
   ·
    first | exact Bool.false_ne_true ((Eq.symm (by assumption)).trans hb) | exact Bool.false_ne_true (hb.symm.trans (by assumption)) | exact DD hb
   have hb9 := hb
   refine L.Gn hb9 ?_
   refine L.Gn hb9 ?_
   refine L.Gn hb9 ?_
   refine L.Gn hb9 ?_
   refine L.Gn hb9 ?_
   refine L.Gn hb9 ?_
   refine L.Y (Y.pk (c := true) hb9) ?_
   refine L.Y Y.mv ?_
   refine L.Gc (fun hb => ?_) (fun hb => ?_)
   rotate_left
   ·
    first | exact Bool.false_ne_true ((Eq.symm (by assumption)).trans hb) | exact Bool.false_ne_true (hb.symm.trans (by assumption)) | exact DD hb
   have hb10 := hb
   refine L.Gn hb10 ?_
   refine L.Gn hb10 ?_
   refine L.Gn hb10 ?_
   refine L.Gn hb10 ?_
   refine L.Gn hb10 ?_
   refine L.Gn hb10 ?_
   refine L.Y (Y.pk (c := true) hb10) ?_
   refine AList.nil ?_
   rcases k with _ | k
   ·
    exact absurd h (by simp [spec_TableOfOrder.j0])
   simp only [spec_TableOfOrder.j0] at h
   refine W.cond (fun hb => ?_) (fun hb => ?_)
   rotate_left
   ·
    first | exact Bool.false_ne_true ((Eq.symm (by assumption)).trans hb) | exact Bool.false_ne_true (hb.symm.trans (by assumption)) | exact DD hb
   have hb11 := hb
   try (first | rw [if_pos hb11] at h | rw [if_neg (Bool.eq_false_iff.1 hb11)] at h | rw [if_pos hb] at h | rw [if_neg hb] at h | (simp only [hb, hT, reduceIte] at h) | skip)
   refine AWp.seq ?_
   refine W.kp [0, 1, 2, 3, 6, 7, 44] ?_
   refine AWp.region ?_
   refine L.Y (Y.bd Tryd.underlying27 Y27 P27) ?_
   refine L.S (S.stb Y27) ?_
   refine L.Y Y.asg ?_
   refine AList.nil ?_
   simp only [Option.some.injEq, Prod.mk.injEq] at h
   obtain ⟨rfl, rfl, rfl, rfl⟩ := h
   refine AWp.ret ?_
   exact ⟨.inr rfl, _, _, _, Res.c2 Tryd.underlying27 Y27, ⟨rfl, rfl⟩, PartV.at [(3, 1)] [2] base0 (H.c .nil)⟩
  ·
   have hb8 := hb
   try simp only [hS, hE, ne_eq] at hb
   first | rw [if_pos hb8] at h | rw [if_neg (Bool.eq_false_iff.1 hb8)] at h | rw [if_pos hb] at h | rw [if_neg hb] at h | (simp only [hb, hT, reduceIte] at h) | skip
   refine L.Gy hb8 Y.mv ?_
   refine L.Gy hb8 (Y.ln Tryd.underlying22) ?_
   replace h := Option.bind_eq_some_iff.1 h
   obtain ⟨t126, hc12, h⟩ := h
   refine L.GC hb8 (C.callE (l := true) [] Tryd.func65 (spec_l1In.ac _ _ _ _ hc12) .nil ?_)
   refine L.Gy hb8 Y.nt ?_
   refine L.Y (Y.pk (c := false) hb8) ?_
   refine L.Y Y.mv ?_
   refine L.Gc (fun hb => ?_) (fun hb => ?_)
   ·
    have hb13 := hb
    try simp only [hS, hE, ne_eq] at hb
    first | rw [if_pos hb13] at h | rw [if_neg (Bool.eq_false_iff.1 hb13)] at h | rw [if_pos hb] at h | rw [if_neg hb] at h | (simp only [hb, hT, reduceIte] at h) | skip
    refine L.Gn hb13 ?_
    refine L.Gn hb13 ?_
    refine L.Gn hb13 ?_
    refine L.Gn hb13 ?_
    refine L.Gn hb13 ?_
    refine L.Gn hb13 ?_
    refine L.Y (Y.pk (c := true) hb13) ?_
    refine L.Y Y.mv ?_
    refine L.Gc (fun hb => ?_) (fun hb => ?_)
    rotate_left
    ·
     first | exact Bool.false_ne_true ((Eq.symm (by assumption)).trans hb) | exact Bool.false_ne_true (hb.symm.trans (by assumption)) | exact DD hb
    have hb14 := hb
    refine L.Gn hb14 ?_
    refine L.Gn hb14 ?_
    refine L.Gn hb14 ?_
    refine L.Gn hb14 ?_
    refine L.Gn hb14 ?_
    refine L.Gn hb14 ?_
    refine L.Y (Y.pk (c := true) hb14) ?_
    refine AList.nil ?_
    rcases k with _ | k
    ·
     exact absurd h (by simp [spec_TableOfOrder.j0])
    simp only [spec_TableOfOrder.j0] at h
    refine W.cond (fun hb => ?_) (fun hb => ?_)
    rotate_left
    ·
     first | exact Bool.false_ne_true ((Eq.symm (by assumption)).trans hb) | exact Bool.false_ne_true (hb.symm.trans (by assumption)) | exact DD hb
    have hb15 := hb
    try (first | rw [if_pos hb15] at h | rw [if_neg (Bool.eq_false_iff.1 hb15)] at h | rw [if_pos hb] at h | rw [if_neg hb] at h | (simp only [hb, hT, reduceIte] at h) | skip)
    refine AWp.seq ?_
    refine W.kp [0, 1, 2, 3, 6, 7, 44] ?_
    refine AWp.region ?_
    refine L.Y (Y.bd Tryd.underlying27 Y27 P27) ?_
    refine L.S (S.stb Y27) ?_
    refine L.Y Y.asg ?_
    refine AList.nil ?_
    simp only [Option.some.injEq, Prod.mk.injEq] at h
    obtain ⟨rfl, rfl, rfl, rfl⟩ := h
    refine AWp.ret ?_
    exact ⟨.inr rfl, _, _, _, Res.c2 Tryd.underlying27 Y27, ⟨rfl, rfl⟩, PartV.at [(3, 1)] [2] base0 (H.c .nil)⟩
   ·
    have hb13 := hb
    try simp only [hS, hE, ne_eq] at hb
    first | rw [if_pos hb13] at h | rw [if_neg (Bool.eq_false_iff.1 hb13)] at h | rw [if_pos hb] at h | rw [if_neg hb] at h | (simp only [hb, hT, reduceIte] at h) | skip
    refine L.Gy hb13 Y.mv ?_
    refine L.Gy hb13 (Y.fa (off := 0) Tryd.underlying30 Y3) ?_
    refine L.Gs hb13 (S.ld Tryd.underlying3) ?_
    refine L.Gy hb13 Y.bin ?_
    replace h := Option.bind_eq_some_iff.1 h
    obtain ⟨t127, hc16, h⟩ := h
    refine L.GC hb13 (C.callE (l := true) [] Tryd.func66 (spec_l1Rising.ac _ _ _ _ _ hc16) .nil ?_)
    refine L.Gy hb13 Y.nt ?_
    refine L.Y (Y.pk (c := false) hb13) ?_
    refine L.Y Y.mv ?_
    refine L.Gc (fun hb => ?_) (fun hb => ?_)
    ·
     have hb17 := hb
     try simp only [hS, hE, ne_eq] at hb
     first | rw [if_pos hb17] at h | rw [if_neg (Bool.eq_false_iff.1 hb17)] at h | rw [if_pos hb] at h | rw [if_neg hb] at h | (simp only [hb, hT, reduceIte] at h) | skip
     refine L.Gn hb17 ?_
     refine L.Gn hb17 ?_
     refine L.Gn hb17 ?_
     refine L.Gn hb17 ?_
     refine L.Gn hb17 ?_
     refine L.Gn hb17 ?_
     refine L.Y (Y.pk (c := true) hb17) ?_
     refine AList.nil ?_
     rcases k with _ | k
     ·
      exact absurd h (by simp [spec_TableOfOrder.j0])
     simp only [spec_TableOfOrder.j0] at h
     refine W.cond (fun hb => ?_) (fun hb => ?_)
     rotate_left
     ·
      first | exact Bool.false_ne_true ((Eq.symm (by assumption)).trans hb) | exact Bool.false_ne_true (hb.symm.trans (by assumption)) | exact DD hb
     have hb18 := hb
     try (first | rw [if_pos hb18] at h | rw [if_neg (Bool.eq_false_iff.1 hb18)] at h | rw [if_pos hb] at h | rw [if_neg hb] at h | (simp only [hb, hT, reduceIte] at h) | skip)
     refine AWp.seq ?_
     refine W.kp [0, 1, 2, 3, 6, 7, 44] ?_
     refine AWp.region ?_
     refine L.Y (Y.bd Tryd.underlying27 Y27 P27) ?_
     refine L.S (S.stb Y27) ?_
     refine L.Y Y.asg ?_
     refine AList.nil ?_
     simp only [Option.some.injEq, Prod.mk.injEq] at h
     obtain ⟨rfl, rfl, rfl, rfl⟩ := h
     refine AWp.ret ?_
     exact ⟨.inr rfl, _, _, _, Res.c2 Tryd.underlying27 Y27, ⟨rfl, rfl⟩, PartV.at [(3, 1)] [2] base0 (H.c .nil)⟩
    ·
     have hb17 := hb
     try simp only [hS, hE, ne_eq] at hb
     first | rw [if_pos hb17] at h | rw [if_neg (Bool.eq_false_iff.1 hb17)] at h | rw [if_pos hb] at h | rw [if_neg hb] at h | (simp only [hb, hT, reduceIte] at h) | skip
     refine L.Gy hb17 Y.mv ?_
     refine L.Gy hb17 (Y.fa (off := 0) Tryd.underlying30 Y3) ?_
     refine L.Gs hb17 (S.ld Tryd.underlying3) ?_
     refine L.Gy hb17 Y.bin ?_
     replace h := Option.bind_eq_some_iff.1 h
     obtain ⟨t128, hc19, h⟩ := h
     refine L.GC hb17 (C.callE (l := true) [] Tryd.func66 (spec_l1Rising.ac _ _ _ _ _ hc19) .nil ?_)
     refine L.Gy hb17 Y.nt ?_
     refine L.Y (Y.pk (c := false) hb17) ?_
     refine AList.nil ?_
     rcases k with _ | k
     ·
      exact absurd h (by simp [spec_TableOfOrder.j0])
     simp only [spec_TableOfOrder.j0] at h
     refine W.cond (fun hb => ?_) (fun hb => ?_)
     ·
      have hb20 := hb
      try simp only [hS, hE, ne_eq] at hb
      first | rw [if_pos hb20] at h | rw [if_neg (Bool.eq_false_iff.1 hb20)] at h | rw [if_pos hb] at h | rw [if_neg hb] at h | (simp only [hb, hT, reduceIte] at h) | skip
      refine AWp.seq ?_
      refine W.kp [0, 1, 2, 3, 6, 7, 44] ?_
      refine AWp.region ?_
      refine L.Y (Y.bd Tryd.underlying27 Y27 P27) ?_
      refine L.S (S.stb Y27) ?_
      refine L.Y Y.asg ?_
      refine AList.nil ?_
      simp only [Option.some.injEq, Prod.mk.injEq] at h
      obtain ⟨rfl, rfl, rfl, rfl⟩ := h
      refine AWp.ret ?_
      exact ⟨.inr rfl, _, _, _, Res.c2 Tryd.underlying27 Y27, ⟨rfl, rfl⟩, PartV.at [(3, 1)] [2] base0 (H.c .nil)⟩
     ·
      have hb20 := hb
      try simp only [hS, hE, ne_eq] at hb
      first | rw [if_pos hb20] at h | rw [if_neg (Bool.eq_false_iff.1 hb20)] at h | rw [if_pos hb] at h | rw [if_neg hb] at h | (simp only [hb, hT, reduceIte] at h) | skip
      refine AWp.skip ?_
      refine AWp.seq ?_
      refine W.kp [0, 1, 2, 3, 6, 7, 44] ?_
      refine AWp.region ?_
      refine L.Y Y.mv ?_
      refine L.Y (Y.ln Tryd.underlying22) ?_
      refine L.Y Y.mv ?_
      refine L.Y (Y.ln Tryd.underlying22) ?_
      refine L.Y (Y.bd Tryd.underlying27 Y27 P27) ?_
      refine L.M (M.al Y27) ?_
      refine L.S (S.stb Y27) ?_
      refine AList.nil ?_
      refine AWp.seq ?_
      refine AWp.seq ?_
      refine W.kp [0, 1, 2, 3, 6, 7, 8, 44] ?_
      refine AWp.region ?_
      refine L.Y Y.mv ?_
      refine L.Y (Y.ln Tryd.underlying22) ?_
      refine L.Y Y.mv ?_
      refine AList.nil ?_
      refine AWp.block ?_
      refine AWp.loopI (fun kk e H => kk ≤ k ∧ ∃ (x52 : Int) (x53 : Int) (x123000 : Int) (x124000 : Int) (x124001 : Int) (x130000 : Int) (x130001 : Int) (x130002 : List Int), e = [(2, .row 1 l2.length false (ints .i64 l2)), (3, .ptr 0 0), (6, .ptr 1 0), (8, .ptr 2 0), (51, .row 1 l1.length false (ints .i64 l1)), (52, .lit (.int .i64 x52)), (53, .lit (.int .i64 x53))] ∧ H = [.bx 30 [.lit (.int .i64 x123000), .row 1 l0_1.length false (ints .i64 l0_1)], .bx 27 [.lit (.int .i64 x124000), .lit (.int .i64 x124001), .lit (.slice none 0 0)], .bx 27 [.lit (.int .i64 x130000), .lit (.int .i64 x130001), .own 3 x130002.length], .sl 3 1 x130002.length false (ints .i64 x130002)] ∧ spec_TableOfOrder.l0 kk l2 l1 x52 x53 x123000 l0_1 x130000 x130001 x130002 = some (r1, r2, r3, r4)) (k := k)
       ⟨_, _, ⟨Nat.le_refl _, _, _, _, _, _, _, _, _, rfl, rfl, h⟩, IsPart.at [(3, 1)] [0, 1, 2, 3] base0 (H.c (H.c (H.c (H.c .nil)))) (E.c (E.c (E.c (E.c (E.c (E.c (E.c .nil)))))))⟩ ?_
      clear h
      rintro k21 e H ⟨hk22, x52, x53, x123000, x124000, x124001, x130000, x130001, x130002, rfl, rfl, h⟩
      cases k21 with
      | zero => exact absurd h (by simp [spec_TableOfOrder.l0])
      | succ k21 =>
      simp only [spec_TableOfOrder.l0] at h
      refine AWp.seq ?_
      refine AWp.region ?_
      refine L.Y Y.bin ?_
      refine AList.nil ?_
      refine AWp.seq ?_
      refine W.cond (fun hb => ?_) (fun hb => ?_)
      ·
       have hb23 := hb
       try simp only [hS, hE, ne_eq] at hb
       first | rw [if_pos hb23] at h | rw [if_neg (Bool.eq_false_iff.1 hb23)] at h | rw [if_pos hb] at h | rw [if_neg hb] at h | (simp only [hb, hT, reduceIte] at h) | skip
       repeat (first | (rw [iN] at h; obtain ⟨_, h⟩ := h) | (rw [iP] at h; obtain ⟨_, h⟩ := h) | (simp only [bS] at h))
       refine AWp.skip ?_
       refine AWp.seq ?_
       refine AWp.block ?_
       refine AWp.seq ?_
       refine AWp.region ?_
       refine L.Y (Y.ixr Tryd.underlying22 Y3) ?_
       refine L.S (S.ld Tryd.underlying3) ?_
       refine L.Y Y.asg ?_
       refine AList.nil ?_
       refine AWp.seq ?_
       refine AWp.region ?_
       refine L.Y Y.asg ?_
       refine AList.nil ?_
       refine AWp.seq ?_
       refine AWp.seq ?_
       refine AWp.region ?_
       refine L.Y Y.mv ?_
       refine L.Y (Y.ln Tryd.underlying22) ?_
       refine L.Y Y.mv ?_
       refine AList.nil ?_
       refine AWp.block ?_
       refine AWp.loopI (fun kk e H => kk ≤ k21 ∧ ∃ (x10 : Int) (x11 : Int) (x52 : Int) (x53 : Int) (x58 : Int) (x59 : Int) (x123000 : Int) (x124000 : Int) (x124001 : Int) (x130000 : Int) (x130001 : Int) (x130002 : List Int), e = [(2, .row 1 l2.length false (ints .i64 l2)), (3, .ptr 0 0), (6, .ptr 1 0), (8, .ptr 2 0), (10, .lit (.int .i64 x10)), (11, .lit (.int .i64 x11)), (51, .row 1 l1.length false (ints .i64 l1)), (52, .lit (.int .i64 x52)), (53, .lit (.int .i64 x53)), (57, .row 1 l2.length false (ints .i64 l2)), (58, .lit (.int .i64 x58)), (59, .lit (.int .i64 x59))] ∧ H = [.bx 30 [.lit (.int .i64 x123000), .row 1 l0_1.length false (ints .i64 l0_1)], .bx 27 [.lit (.int .i64 x124000), .lit (.int .i64 x124001), .lit (.slice none 0 0)], .bx 27 [.lit (.int .i64 x130000), .lit (.int .i64 x130001), .own 3 x130002.length], .sl 3 1 x130002.length false (ints .i64 x130002)] ∧ spec_TableOfOrder.l1 kk l2 x10 x11 l1 x52 x53 l2 x58 x59 x123000 l0_1 x130000 x130001 x130002 = some (r1, r2, r3, r4)) (k := k21)
        ⟨_, _, ⟨Nat.le_refl _, _, _, _, _, _, _, _, _, _, _, _, _, rfl, rfl, h⟩, IsPart.at [] [0, 1, 2, 3] base0 (H.c (H.c (H.c (H.c .nil)))) (E.c (E.c (E.c (E.c (E.c (E.c (E.c (E.c (E.c (E.c (E.c (E.c .nil))))))))))))⟩ ?_
       clear h
       rintro k24 e H ⟨hk25, x10, x11, x52, x53, x58, x59, x123000, x124000, x124001, x130000, x130001, x130002, rfl, rfl, h⟩
       cases k24 with
       | zero => exact absurd h (by simp [spec_TableOfOrder.l1])
       | succ k24 =>
       simp only [spec_TableOfOrder.l1] at h
       refine AWp.seq ?_
       refine AWp.region ?_
       refine L.Y Y.bin ?_
       refine AList.nil ?_
       refine AWp.seq ?_
       refine W.cond (fun hb => ?_) (fun hb => ?_)
       ·
        have hb26 := hb
        try simp only [hS, hE, ne_eq] at hb
        first | rw [if_pos hb26] at h | rw [if_neg (Bool.eq_false_iff.1 hb26)] at h | rw [if_pos hb] at h | rw [if_neg hb] at h | (simp only [hb, hT, reduceIte] at h) | skip
        repeat (first | (rw [iN] at h; obtain ⟨_, h⟩ := h) | (rw [iP] at h; obtain ⟨_, h⟩ := h) | (simp only [bS] at h))
        refine AWp.skip ?_
        refine AWp.seq ?_
        refine AWp.block ?_
        refine AWp.seq ?_
        refine AWp.region ?_
        refine L.Y Y.mv ?_
        refine L.Y (Y.ixr Tryd.underlying22 Y3) ?_
        refine L.S (S.ld Tryd.underlying3) ?_
        refine L.Y Y.asg ?_
        refine L.Y Y.asg ?_
        refine AList.nil ?_
        refine AWp.seq ?_
        refine AWp.region ?_
        refine L.Y (Y.fa (off := 1) Tryd.underlying30 Y22) ?_
        refine L.S (S.ld Tryd.underlying22) ?_
        refine L.Y Y.mv ?_
        refine L.Y (Y.ixr Tryd.underlying22 Y3) ?_
        refine L.S (S.ld Tryd.underlying3) ?_
        refine L.Y Y.mv ?_
        replace h := Option.bind_eq_some_iff.1 h
        obtain ⟨t133, hc27, h⟩ := h
        refine L.C (C.callE (l := true) [] Tryd.func67 (spec_orHas.ac _ _ _ hc27) .nil ?_)
        refine AList.nil ?_
        refine W.cond (fun hb => ?_) (fun hb => ?_)
        ·
         have hb28 := hb
         try simp only [hS, hE, ne_eq] at hb
         first | rw [if_pos hb28] at h | rw [if_neg (Bool.eq_false_iff.1 hb28)] at h | rw [if_pos hb] at h | rw [if_neg hb] at h | (simp only [hb, hT, reduceIte] at h) | skip
         refine W.kp [2, 3, 6, 8, 10, 11, 12, 13, 51, 52, 53, 57, 58, 59, 60, 70] ?_
         refine AWp.region ?_
         refine L.Y Y.mv ?_
         refine L.Y Y.mv ?_
         refine L.Y Y.bin ?_
         refine L.Y Y.bin ?_
         refine L.Y Y.asg ?_
         refine AList.nil ?_
         refine W.kp [2, 3, 6, 8, 10, 11, 12, 13, 51, 52, 53, 57, 58, 59, 60, 70] ?_
         refine AWp.region ?_
         refine L.Y Y.bin ?_
         refine L.Y Y.mv ?_
         refine AList.nil ?_
         exact ⟨k24, by omega, _, _, ⟨by omega, _, _, _, _, _, _, _, _, _, _, _, _, rfl, rfl, h⟩, IsPart.at [] [0, 1, 2, 3] base0 (H.c (H.c (H.c (H.c .nil)))) (E.c (E.c (E.c (E.c (E.c (E.c (E.c (E.c (E.c (E.c (E.c (E.c .nil))))))))))))⟩
        ·
         have hb28 := hb
         try simp only [hS, hE, ne_eq] at hb
         first | rw [if_pos hb28] at h | rw [if_neg (Bool.eq_false_iff.1 hb28)] at h | rw [if_pos hb] at h | rw [if_neg hb] at h | (simp only [hb, hT, reduceIte] at h) | skip
         refine AWp.skip ?_
         refine W.kp [2, 3, 6, 8, 10, 11, 12, 13, 51, 52, 53, 57, 58, 59, 60, 70] ?_
         refine AWp.region ?_
         refine L.Y Y.bin ?_
         refine L.Y Y.mv ?_
         refine AList.nil ?_
         exact ⟨k24, by omega, _, _, ⟨by omega, _, _, _, _, _, _, _, _, _, _, _, _, rfl, rfl, h⟩, IsPart.at [] [0, 1, 2, 3] base0 (H.c (H.c (H.c (H.c .nil)))) (E.c (E.c (E.c (E.c (E.c (E.c (E.c (E.c (E.c (E.c (E.c (E.c .nil))))))))))))⟩
       ·
        have hb26 := hb
        try simp only [hS, hE, ne_eq] at hb
        first | rw [if_pos hb26] at h | rw [if_neg (Bool.eq_false_iff.1 hb26)] at h | rw [if_pos hb] at h | rw [if_neg hb] at h | (simp only [hb, hT, reduceIte] at h) | skip
        repeat (first | (rw [iN] at h; obtain ⟨_, h⟩ := h) | (rw [iP] at h; obtain ⟨_, h⟩ := h) | (simp only [bS] at h))
        refine AWp.exit ?_
        refine AWp.region ?_
        refine L.Y (Y.fa (off := 2) Tryd.underlying27 Y22) ?_
        refine L.S (S.ld Tryd.underlying22) ?_
        refine L.Y Y.mv ?_
        refine L.M (M.bs Tryd.underlying22 Y3) ?_
        refine L.S (S.ap (nn' := false) Tryd.underlying22 Y3) ?_
        refine L.Y (Y.fa (off := 2) Tryd.underlying27 Y22) ?_
        refine L.S (S.stb Y22) ?_
        refine AList.nil ?_
        refine W.kp [2, 3, 6, 8, 10, 11, 51, 52, 53, 57, 58, 59, 60] ?_
        refine AWp.region ?_
        refine L.Y Y.bin ?_
        refine L.Y Y.mv ?_
        refine AList.nil ?_
        exact ⟨k24, by omega, _, _, ⟨by omega, _, _, _, _, _, _, _, _, rfl, rfl, h⟩, IsPart.at [] [0, 1, 2, 3] base0 (H.c (H.c (H.c (H.c .nil)))) (E.c (E.c (E.c (E.c (E.c (E.c (E.c .nil)))))))⟩
      ·
       have hb23 := hb
       try simp only [hS, hE, ne_eq] at hb
       first | rw [if_pos hb23] at h | rw [if_neg (Bool.eq_false_iff.1 hb23)] at h | rw [if_pos hb] at h | rw [if_neg hb] at h | (simp only [hb, hT, reduceIte] at h) | skip
       refine AWp.exit ?_
       refine AWp.seq ?_
       refine AWp.region ?_
       refine L.S (S.ldN Tryd.underlying27 Y27) ?_
       refine L.S (S.stb Y27) ?_
       refine L.Y Y.asg ?_
       refine AList.nil ?_
       simp only [Option.some.injEq, Prod.mk.injEq] at h
       obtain ⟨rfl, rfl, rfl, rfl⟩ := h
       refine AWp.ret ?_
       exact ⟨.inr rfl, _, _, _, Res.c2 Tryd.underlying27 Y27, ⟨rfl, rfl⟩, PartV.at [] [3] base0 (H.c .nil)⟩

/-! ### impl_within: function 68 -/
def impl_within.f (a0 : Int) (a1 : Int) (a2 : Int) : Option (Bool) := if a0 ≥ a1 then (some (decide (a0 ≤ a2))) else (some false)
set_option maxRecDepth 100000 in
set_option maxHeartbeats 20000000 in
theorem impl_within.ac (a0 : Int) (a1 : Int) (a2 : Int) (r : Bool) (h : impl_within.f a0 a1 a2 = some r) :
  ACalls Tryd.prog 68 [.lit (.int .i64 a0), .lit (.int .i64 a1), .lit (.int .i64 a2)] [] (fun v H' => v = .lit (.bool r) ∧ H' = []) := by
 refine ACalls.ofP [6] Tryd.func68 rfl (by exact Nat.le_of_ble_eq_true rfl) rfl (by decide) ?_
 simp only [Tryd.ntmps68, env0, impl_within.f] at h ⊢
 refine AWp.seq ?_
 refine AWp.region ?_
 refine L.Y Y.asg ?_
 refine AList.nil ?_
 refine AWp.seq ?_
 refine AWp.region ?_
 refine L.Y Y.mv ?_
 refine L.Y Y.mv ?_
 refine L.Y Y.bin ?_
 refine L.Y Y.mv ?_
 refine L.Gc (fun hb => ?_) (fun hb => ?_)
 ·
  have hb1 := hb
  try simp only [hS, hE, ne_eq] at hb
  first | rw [if_pos hb1] at h | rw [if_neg (Bool.eq_false_iff.1 hb1)] at h | rw [if_pos hb] at h | rw [if_neg hb] at h | (simp only [hb, hT, reduceIte] at h) | skip
  refine L.Gy hb1 Y.mv ?_
  refine L.Gy hb1 Y.mv ?_
  refine L.Gy hb1 Y.bin ?_
  refine L.Y (Y.pk (c := true) hb1) ?_
  refine L.Y Y.asg ?_
  refine AList.nil ?_
  obtain rfl := Option.some.inj h
  refine AWp.ret ?_
  exact ⟨.inr rfl, [(6, _)], _, ⟨rfl, rfl⟩, IsPart.at [] [] base0 .nil (E.c .nil)⟩
 ·
  have hb1 := hb
  try simp only [hS, hE, ne_eq] at hb
  first | rw [if_pos hb1] at h | rw [if_neg (Bool.eq_false_iff.1 hb1)] at h | rw [if_pos hb] at h | rw [if_neg hb] at h | (simp only [hb, hT, reduceIte] at h) | skip
  refine L.Gn hb1 ?_
  refine L.Gn hb1 ?_
  refine L.Gn hb1 ?_
  refine L.Y (Y.pk (c := false) hb1) ?_
  refine L.Y Y.asg ?_
  refine AList.nil ?_
  obtain rfl := Option.some.inj h
  refine AWp.ret ?_
  exact ⟨.inr rfl, [(6, _)], _, ⟨rfl, rfl⟩, IsPart.at [] [] base0 .nil (E.c .nil)⟩

/-! ### impl_allWithin: function 88 -/
def impl_allWithin.l0 : Nat → Int → Int → List Int → Int → Int → Option (Bool)
 | 0, _, _, _, _, _ => none
 | k + 1, x1, x2, x9, x10, x11 => if x11 < x10 then (if 0 ≤ x11 then (if x11 < (x9.length : Int) then ((impl_within.f (rd x9 x11) x1 x2).bind fun t138 => (if t138 = true then (impl_allWithin.l0 k x1 x2 x9 x10 (wrap64 (x11 + 1))) else (some false))) else (none)) else (none)) else (some true)
def impl_allWithin.f (k : Nat) (l0 : List Int) (a1 : Int) (a2 : Int) : Option (Bool) := impl_allWithin.l0 k a1 a2 l0 (l0.length : Int) 0
set_option maxRecDepth 100000 in
set_option maxHeartbeats 20000000 in
theorem impl_allWithin.ac (k : Nat) (l0 : List Int) (a1 : Int) (a2 : Int) (r : Bool) (h : impl_allWithin.f k l0 a1 a2 = some r) :
  ACalls Tryd.prog 88 [.row 1 l0.length false (ints .i64 l0), .lit (.int .i64 a1), .lit (.int .i64 a2)] [] (fun v H' => v = .lit (.bool r) ∧ H' = []) := by
 refine ACalls.ofP [6] Tryd.func88 rfl (by exact Nat.le_of_ble_eq_true rfl) rfl (by decide) ?_
 simp only [Tryd.ntmps88, env0, impl_allWithin.f] at h ⊢
 refine AWp.seq ?_
 refine AWp.region ?_
 refine L.Y Y.asg ?_
 refine AList.nil ?_
 refine AWp.seq ?_
 refine AWp.seq ?_
 refine AWp.region ?_
 refine L.Y Y.mv ?_
 refine L.Y (Y.ln Tryd.underlying22) ?_
 refine L.Y Y.mv ?_
 refine AList.nil ?_
 refine AWp.block ?_
 refine AWp.loopI (fun kk e H => kk ≤ k ∧ ∃ (x1 : Int) (x2 : Int) (x10 : Int) (x11 : Int), e = [(1, .lit (.int .i64 x1)), (2, .lit (.int .i64 x2)), (9, .row 1 l0.length false (ints .i64 l0)), (10, .lit (.int .i64 x10)), (11, .lit (.int .i64 x11))] ∧ H = [] ∧ impl_allWithin.l0 kk x1 x2 l0 x10 x11 = some r) (k := k)
  ⟨_, _, ⟨Nat.le_refl _, _, _, _, _, rfl, rfl, h⟩, IsPart.at [] [] base0 .nil (E.c (E.c (E.c (E.c (E.c .nil)))))⟩ ?_
 clear h
 rintro k1 e H ⟨hk2, x1, x2, x10, x11, rfl, rfl, h⟩
 cases k1 with
 | zero => exact absurd h (by simp [impl_allWithin.l0])
 | succ k1 =>
 simp only [impl_allWithin.l0] at h
 refine AWp.seq ?_
 refine AWp.region ?_
 refine L.Y Y.bin ?_
 refine AList.nil ?_
 refine AWp.seq ?_
 refine W.cond (fun hb => ?_) (fun hb => ?_)
 ·
  have hb3 := hb
  try simp only [hS, hE, ne_eq] at hb
  first | rw [if_pos hb3] at h | rw [if_neg (Bool.eq_false_iff.1 hb3)] at h | rw [if_pos hb] at h | rw [if_neg hb] at h | (simp only [hb, hT, reduceIte] at h) | skip
  repeat (first | (rw [iN] at h; obtain ⟨_, h⟩ := h) | (rw [iP] at h; obtain ⟨_, h⟩ := h) | (simp only [bS] at h))
  refine AWp.skip ?_
  refine AWp.seq ?_
  refine AWp.block ?_
  refine AWp.seq ?_
  refine AWp.region ?_
  refine L.Y (Y.ixr Tryd.underlying22 Y3) ?_
  refine L.S (S.ld Tryd.underlying3) ?_
  refine L.Y Y.asg ?_
  refine AList.nil ?_
  refine AWp.seq ?_
  refine AWp.region ?_
  refine L.Y Y.mv ?_
  refine L.Y Y.mv ?_
  refine L.Y Y.mv ?_
  replace h := Option.bind_eq_some_iff.1 h
  obtain ⟨t138, hc4, h⟩ := h
  refine L.C (C.callE (l := true) [] Tryd.func68 (impl_within.ac _ _ _ _ hc4) .nil ?_)
  refine L.Y Y.nt ?_
  refine AList.nil ?_
  refine W.cond (fun hb => ?_) (fun hb => ?_)
  ·
   have hb5 := hb
   try simp only [hS, hE, ne_eq] at hb
   first | rw [if_pos hb5] at h | rw [if_neg (Bool.eq_false_iff.1 hb5)] at h | rw [if_pos hb] at h | rw [if_neg hb] at h | (simp only [hb, hT, reduceIte] at h) | skip
   refine AWp.seq ?_
   refine W.kp [1, 2, 8, 9, 10, 11, 12, 19] ?_
   refine AWp.region ?_
   refine L.Y Y.asg ?_
   refine AList.nil ?_
   obtain rfl := Option.some.inj h
   refine AWp.ret ?_
   exact ⟨.inr rfl, [(6, _)], _, ⟨rfl, rfl⟩, IsPart.at [] [] base0 .nil (E.c .nil)⟩
  ·
   have hb5 := hb
   try simp only [hS, hE, ne_eq] at hb
   first | rw [if_pos hb5] at h | rw [if_neg (Bool.eq_false_iff.1 hb5)] at h | rw [if_pos hb] at h | rw [if_neg hb] at h | (simp only [hb, hT, reduceIte] at h) | skip
   refine AWp.skip ?_
   refine W.kp [1, 2, 8, 9, 10, 11, 12, 19] ?_
   refine AWp.region ?_
   refine L.Y Y.bin ?_
   refine L.Y Y.mv ?_
   refine AList.nil ?_
   exact ⟨k1, by omega, _, _, ⟨by omega, _, _, _, _, rfl, rfl, h⟩, IsPart.at [] [] base0 .nil (E.c (E.c (E.c (E.c (E.c .nil)))))⟩
 ·
  have hb3 := hb
  try simp only [hS, hE, ne_eq] at hb
  first | rw [if_pos hb3] at h | rw [if_neg (Bool.eq_false_iff.1 hb3)] at h | rw [if_pos hb] at h | rw [if_neg hb] at h | (simp only [hb, hT, reduceIte] at h) | skip
  refine AWp.exit ?_
  refine AWp.seq ?_
  refine AWp.region ?_
  refine L.Y Y.asg ?_
  refine AList.nil ?_
  obtain rfl := Option.some.inj h
  refine AWp.ret ?_
  exact ⟨.inr rfl, [(6, _)], _, ⟨rfl, rfl⟩, IsPart.at [] [] base0 .nil (E.c .nil)⟩

/-! ### impl_IsRelation: function 28 -/
def impl_IsRelation.f (k : Nat) (a0_0 : Int) (l0_1 : List Int) : Option (Bool) := (impl_within.f a0_0 0 10).bind fun t140 => (if t140 = true then (if (l0_1.length : Int) = a0_0 then (if 0 ≤ a0_0 then ((impl_allWithin.f k l0_1 0 (wrap64 ((shl .i64 1 a0_0) - 1))).bind fun t141 => (some t141)) else (none)) else (some false)) else (some false))
set_option maxRecDepth 100000 in
set_option maxHeartbeats 20000000 in
theorem impl_IsRelation.ac (k : Nat) (a0_0 : Int) (l0_1 : List Int) (r : Bool) (h : impl_IsRelation.f k a0_0 l0_1 = some r) :
  ACalls Tryd.prog 28 [.agg [.lit (.int .i64 a0_0), .row 1 l0_1.length false (ints .i64 l0_1)]] [] (fun v H' => v = .lit (.bool r) ∧ H' = []) := by
 refine ACalls.ofP [2] Tryd.func28 rfl (by exact Nat.le_of_ble_eq_true rfl) rfl (by decide) ?_
 simp only [Tryd.ntmps28, env0, impl_IsRelation.f] at h ⊢
 refine AWp.seq ?_
 refine AWp.region ?_
 refine L.M M.bx ?_
 refine L.Y Y.asg ?_
 refine AList.nil ?_
 refine AWp.seq ?_
 refine Dt.reg [] [] (.y 0 (.t 1 (.one 2 (.y 3 (.y 4 (.t 5 (.y 6 (.y 7 (.t 8 (.y 9 (.y 10 (.y 11 (.y 12 (.t 13 (.y 14 (.t 15 (.y 16 (.y 17 (.one 18 (.y 19 (.y 20 .done))))))))))))))))))))) HM ?_
 refine Dt.Y rfl wantN (Y.fa (off := 0) Tryd.underlying30 Y3) ?_
 refine Dt.T rfl wantN (D.ld Tryd.underlying3) ?_
 refine Dt.O (g' := false) rfl wantN ?_
 replace h := Option.bind_eq_some_iff.1 h
 obtain ⟨t140, hc1, h⟩ := h
 refine Ox.C true [] Tryd.func68 (impl_within.ac _ _ _ _ hc1) .nil ?_
 refine Dt.Y rfl wantN Y.mv ?_
 refine Dt.F 6 (fun hb => ?_) (fun hb => ?_)
 ·
  have hb2 := hb
  try simp only [hS, hE, ne_eq] at hb
  first | rw [if_pos hb2] at h | rw [if_neg (Bool.eq_false_iff.1 hb2)] at h | rw [if_pos hb] at h | rw [if_neg hb] at h | (simp only [hb, hT, reduceIte] at h) | skip
  refine Dt.Y rfl (wantY hb2) (Y.fa (off := 1) Tryd.underlying30 Y22) ?_
  refine Dt.T rfl (wantY hb2) (D.ld Tryd.underlying22) ?_
  refine Dt.Y rfl (wantY hb2) (Y.ln Tryd.underlying22) ?_
  refine Dt.Y rfl (wantY hb2) (Y.fa (off := 0) Tryd.underlying30 Y3) ?_
  refine Dt.T rfl (wantY hb2) (D.ld Tryd.underlying3) ?_
  refine Dt.Y rfl (wantY hb2) Y.bin ?_
  refine Dt.Y rfl wantN (Y.pk (c := true) hb2) ?_
  refine Dt.Y rfl wantN Y.mv ?_
  refine Dt.F 14 (fun hb => ?_) (fun hb => ?_)
  ·
   have hb3 := hb
   try simp only [hS, hE, ne_eq] at hb
   first | rw [if_pos hb3] at h | rw [if_neg (Bool.eq_false_iff.1 hb3)] at h | rw [if_pos hb] at h | rw [if_neg hb] at h | (simp only [hb, hT, reduceIte] at h) | skip
   repeat (first | (rw [iN] at h; obtain ⟨_, h⟩ := h) | (rw [iP] at h; obtain ⟨_, h⟩ := h) | (simp only [bS] at h))
   refine Dt.Y rfl (wantY hb3) (Y.fa (off := 1) Tryd.underlying30 Y22) ?_
   refine Dt.T rfl (wantY hb3) (D.ld Tryd.underlying22) ?_
   refine Dt.Y rfl (wantY hb3) (Y.fa (off := 0) Tryd.underlying30 Y3) ?_
   refine Dt.T rfl (wantY hb3) (D.ld Tryd.underlying3) ?_
   refine Dt.Y rfl (wantY hb3) Y.bin ?_
   refine Dt.Y rfl (wantY hb3) Y.bin ?_
   refine Dt.O (g' := false) rfl (wantY hb3) ?_
   replace h := Option.bind_eq_some_iff.1 h
   obtain ⟨t141, hc4, h⟩ := h
   refine Ox.C true [] Tryd.func88 (impl_allWithin.ac _ _ _ _ _ hc4) .nil ?_
   refine Dt.Y rfl wantN (Y.pk (c := true) hb3) ?_
   refine Dt.Y rfl wantN Y.asg ?_
   refine Dt.nil ?_
   obtain rfl := Option.some.inj h
   refine AWp.ret ?_
   exact ⟨.inr rfl, [(2, _)], _, ⟨rfl, rfl⟩, IsPart.at [] [] base0 .nil (E.c .nil)⟩
  ·
   have hb3 := hb
   try simp only [hS, hE, ne_eq] at hb
   first | rw [if_pos hb3] at h | rw [if_neg (Bool.eq_false_iff.1 hb3)] at h | rw [if_pos hb] at h | rw [if_neg hb] at h | (simp only [hb, hT, reduceIte] at h) | skip
   refine Dt.No rfl (wantZ hb3) ?_
   refine Dt.Nt rfl (wantZ hb3) ?_
   refine Dt.No rfl (wantZ hb3) ?_
   refine Dt.Nt rfl (wantZ hb3) ?_
   refine Dt.No rfl (wantZ hb3) ?_
   refine Dt.No rfl (wantZ hb3) ?_
   refine Dt.Po rfl (wantZ hb3) ?_
   refine Dt.Y rfl wantN (Y.pk (c := false) hb3) ?_
   refine Dt.Y rfl wantN Y.asg ?_
   refine Dt.nil ?_
   obtain rfl := Option.some.inj h
   refine AWp.ret ?_
   exact ⟨.inr rfl, [(2, _)], _, ⟨rfl, rfl⟩, IsPart.at [] [] base0 .nil (E.c .nil)⟩
 ·
  have hb2 := hb
  try simp only [hS, hE, ne_eq] at hb
  first | rw [if_pos hb2] at h | rw [if_neg (Bool.eq_false_iff.1 hb2)] at h | rw [if_pos hb] at h | rw [if_neg hb] at h | (simp only [hb, hT, reduceIte] at h) | skip
  refine Dt.No rfl (wantZ hb2) ?_
  refine Dt.Nt rfl (wantZ hb2) ?_
  refine Dt.No rfl (wantZ hb2) ?_
  refine Dt.No rfl (wantZ hb2) ?_
  refine Dt.Nt rfl (wantZ hb2) ?_
  refine Dt.No rfl (wantZ hb2) ?_
  refine Dt.Y rfl wantN (Y.pk (c := false) hb2) ?_
  refine Dt.Y rfl wantN Y.mv ?_
  refine Dt.F 14 (fun hb => ?_) (fun hb => ?_)
  ·
   first | exact Bool.false_ne_true ((Eq.symm (by assumption)).trans hb) | exact Bool.false_ne_true (hb.symm.trans (by assumption)) | exact DD hb
  have hb5 := hb
  refine Dt.No rfl (wantZ hb5) ?_
  refine Dt.Nt rfl (wantZ hb5) ?_
  refine Dt.No rfl (wantZ hb5) ?_
  refine Dt.Nt rfl (wantZ hb5) ?_
  refine Dt.No rfl (wantZ hb5) ?_
  refine Dt.No rfl (wantZ hb5) ?_
  refine Dt.Po rfl (wantZ hb5) ?_
  refine Dt.Y rfl wantN (Y.pk (c := false) hb5) ?_
  refine Dt.Y rfl wantN Y.asg ?_
  refine Dt.nil ?_
  obtain rfl := Option.some.inj h
  refine AWp.ret ?_
  exact ⟨.inr rfl, [(2, _)], _, ⟨rfl, rfl⟩, IsPart.at [] [] base0 .nil (E.c .nil)⟩

/-! ### impl_Order_better: function 73 -/
def impl_Order_better.f (a0_0 : Int) (l0_1 : List Int) (a1 : Int) (a2 : Int) : Option (Bool) := if 0 ≤ a1 then (if a1 < (l0_1.length : Int) then (if 0 ≤ a2 then (some ((Go.bits .and .i64 (shr .i64 (rd l0_1 a1) a2) 1) == 1)) else (none)) else (none)) else (none)
set_option maxRecDepth 100000 in
set_option maxHeartbeats 20000000 in
theorem impl_Order_better.ac (a0_0 : Int) (l0_1 : List Int) (a1 : Int) (a2 : Int) (r : Bool) (h : impl_Order_better.f a0_0 l0_1 a1 a2 = some r) :
  ACalls Tryd.prog 73 [.agg [.lit (.int .i64 a0_0), .row 1 l0_1.length false (ints .i64 l0_1)], .lit (.int .i64 a1), .lit (.int .i64 a2)] [] (fun v H' => v = .lit (.bool r) ∧ H' = []) := by
 refine ACalls.ofP [6] Tryd.func73 rfl (by exact Nat.le_of_ble_eq_true rfl) rfl (by decide) ?_
 simp only [Tryd.ntmps73, env0, impl_Order_better.f] at h ⊢
 repeat (first | (rw [iN] at h; obtain ⟨_, h⟩ := h) | (rw [iP] at h; obtain ⟨_, h⟩ := h) | (simp only [bS] at h))
 refine AWp.seq ?_
 refine AWp.region ?_
 refine L.M M.bx ?_
 refine L.Y Y.asg ?_
 refine AList.nil ?_
 refine AWp.seq ?_
 refine AWp.region ?_
 refine L.Y (Y.fa (off := 1) Tryd.underlying30 Y22) ?_
 refine L.S (S.ld Tryd.underlying22) ?_
 refine L.Y Y.mv ?_
 refine L.Y (Y.ixr Tryd.underlying22 Y3) ?_
 refine L.S (S.ld Tryd.underlying3) ?_
 refine L.Y Y.mv ?_
 refine L.Y Y.bin ?_
 refine L.Y Y.bin ?_
 refine L.Y Y.bin ?_
 refine L.Y Y.asg ?_
 refine AList.nil ?_
 obtain rfl := Option.some.inj h
 refine AWp.ret ?_
 exact ⟨.inr rfl, [(6, _)], _, ⟨rfl, rfl⟩, IsPart.at [] [] base0 .nil (E.c .nil)⟩

-- NOT PRINTED: function 144 (bits_TrailingZeros32)

end Go.Proofs.YtpippjgphndjmaaDoor.PFnOrdersAsTables
