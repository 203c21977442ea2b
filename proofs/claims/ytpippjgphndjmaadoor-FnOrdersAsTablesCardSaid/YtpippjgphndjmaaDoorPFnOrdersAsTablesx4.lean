-- Written by a program of this session's (wip/myprint2): the functions by the kit's print, the walks by awgen.py. Lean checks it.
import Derived.Test.YtpippjgphndjmaaDoorPFnOrdersAsTablesx0
import Derived.Test.YtpippjgphndjmaaDoorPFnOrdersAsTablesx2
import Derived.Test.YtpippjgphndjmaaDoorPFnOrdersAsTablesx3
namespace Go.Proofs.YtpippjgphndjmaaDoor.PFnOrdersAsTables
open Go.RowKit Go.Proofs.YtpippjgphndjmaaDoorW.PrintWords Go.Proofs.YtpippjgphndjmaaDoorW.PrintLast Go.Proofs.YtpippjgphndjmaaDoorW.PrintMore Go.Proofs.YtpippjgphndjmaaDoorM Go.Proofs.YtpippjgphndjmaaDoorA Go.Proofs.YtpippjgphndjmaaDoorT
attribute [local go_sem] max2_int min2_int max_two min_two max_three min_three max_four min_four   -- for this text's walks alone
set_option linter.unusedVariables false
set_option linter.unusedSimpArgs false

/-! ### impl_TableOfOrder: function 14 -/
def impl_TableOfOrder.j0 : Nat → Bool → Int → List Int → List Int → List Int → Option (Int × Int × List Int × Bool)
 | 0, _, _, _, _, _ => none
 | k + 1, x22, x177000, x177001, x178000, x179000 => if x22 = true then (some (0, 0, ([] : List Int), false)) else ((impl_Order_has.f k x177000 x177001 x178000).bind fun t183 => (if t183 = true then ((impl_Order_has.f k x177000 x177001 x179000).bind fun t184 => (if t184 = true then ((impl_isIncreasing.f k x178000).bind fun t185 => (if t185 = true then ((impl_isIncreasing.f k x179000).bind fun t186 => (if t186 = true then ((impl_table.f k (x178000.length : Int) (x179000.length : Int) (fun z0_ z1_ => impl_TableOfOrder_1.f z0_ z1_ x177000 x177001 x178000 x179000)).bind fun bt187 => (some (bt187.1, bt187.2.1, bt187.2.2, true))) else (some (0, 0, ([] : List Int), false)))) else (some (0, 0, ([] : List Int), false)))) else (some (0, 0, ([] : List Int), false)))) else (some (0, 0, ([] : List Int), false))))
def impl_TableOfOrder.f (k : Nat) (a0_0 : Int) (l0_1 : List Int) (l1 : List Int) (l2 : List Int) : Option (Int × Int × List Int × Bool) := (impl_IsOrder.f k a0_0 l0_1).bind fun t180 => (if t180 = true then ((impl_within.f (l1.length : Int) 1 6).bind fun t181 => (if t181 = true then ((impl_within.f (l2.length : Int) 1 6).bind fun t182 => (impl_TableOfOrder.j0 k (!t182) a0_0 l0_1 l1 l2)) else (impl_TableOfOrder.j0 k true a0_0 l0_1 l1 l2))) else (impl_TableOfOrder.j0 k true a0_0 l0_1 l1 l2))
set_option maxRecDepth 100000 in
set_option maxHeartbeats 20000000 in
theorem impl_TableOfOrder.ac (k : Nat) (a0_0 : Int) (l0_1 : List Int) (l1 : List Int) (l2 : List Int) (r1 : Int) (r2 : Int) (r3 : List Int) (r4 : Bool) (h : impl_TableOfOrder.f k a0_0 l0_1 l1 l2 = some (r1, r2, r3, r4)) :
  ACalls Tryd.prog 14 [.agg [.lit (.int .i64 a0_0), .row 1 l0_1.length false (ints .i64 l0_1)], .row 1 l1.length false (ints .i64 l1), .row 1 l2.length false (ints .i64 l2)] [] (fun v H' => v = .tup [.agg [.lit (.int .i64 r1), .lit (.int .i64 r2), .own 0 r3.length], .lit (.bool r4)] ∧ H' = [.sl 3 1 r3.length false (ints .i64 r3)]) := by
 refine ACalls.ofV Tryd.func14 rfl (by exact Nat.le_of_ble_eq_true rfl) ?_
 simp only [Tryd.ntmps14, env0, impl_TableOfOrder.f] at h ⊢
 refine AWp.seq ?_
 refine AWp.region ?_
 refine L.M M.bx ?_
 refine L.M M.bx ?_
 refine L.M M.bx ?_
 refine L.M (M.al Y27) ?_
 refine L.Y Y.asg ?_
 refine AList.nil ?_
 refine AWp.seq ?_
 refine AWp.seq ?_
 refine AWp.region ?_
 refine L.S (S.ldN Tryd.underlying30 Y30) ?_
 replace h := Option.bind_eq_some_iff.1 h
 obtain ⟨t180, hc1, h⟩ := h
 refine L.C (C.callE (l := true) [] Tryd.func29 (impl_IsOrder.ac _ _ _ _ hc1) .nil ?_)
 refine L.Y Y.nt ?_
 refine L.Y Y.mv ?_
 refine L.Gc (fun hb => ?_) (fun hb => ?_)
 ·
  have hb2 := hb
  try simp only [hS, hE, ne_eq] at hb
  first | rw [if_pos hb2] at h | rw [if_neg (Bool.eq_false_iff.1 hb2)] at h | rw [if_pos hb] at h | rw [if_neg hb] at h | (simp only [hb, hT, reduceIte] at h) | skip
  refine L.Gn hb2 ?_
  refine L.Gn hb2 ?_
  refine L.Gn hb2 ?_
  refine L.Gn hb2 ?_
  refine L.Y (Y.pk (c := true) hb2) ?_
  refine L.Y Y.mv ?_
  refine L.Gc (fun hb => ?_) (fun hb => ?_)
  rotate_left
  ·
   first | exact Bool.false_ne_true ((Eq.symm (by assumption)).trans hb) | exact Bool.false_ne_true (hb.symm.trans (by assumption)) | exact DD hb
  have hb3 := hb
  refine L.Gn hb3 ?_
  refine L.Gn hb3 ?_
  refine L.Gn hb3 ?_
  refine L.Gn hb3 ?_
  refine L.Y (Y.pk (c := true) hb3) ?_
  refine AList.nil ?_
  rcases k with _ | k
  ·
   exact absurd h (by simp [impl_TableOfOrder.j0])
  simp only [impl_TableOfOrder.j0] at h
  refine W.cond (fun hb => ?_) (fun hb => ?_)
  rotate_left
  ·
   first | exact Bool.false_ne_true ((Eq.symm (by assumption)).trans hb) | exact Bool.false_ne_true (hb.symm.trans (by assumption)) | exact DD hb
  have hb4 := hb
  try (first | rw [if_pos hb4] at h | rw [if_neg (Bool.eq_false_iff.1 hb4)] at h | rw [if_pos hb] at h | rw [if_neg hb] at h | (simp only [hb, hT, reduceIte] at h) | skip)
  refine AWp.seq ?_
  refine W.kp [0, 1, 2, 3, 4, 5, 6, 7, 22] ?_
  refine AWp.region ?_
  refine L.Y (Y.bd Tryd.underlying27 Y27 P27) ?_
  refine L.S (S.stb Y27) ?_
  refine L.Y Y.asg ?_
  refine AList.nil ?_
  simp only [Option.some.injEq, Prod.mk.injEq] at h
  obtain ⟨rfl, rfl, rfl, rfl⟩ := h
  refine AWp.ret ?_
  exact ⟨.inr rfl, _, _, _, Res.c2 Tryd.underlying27 Y27, ⟨rfl, rfl⟩, PartV.at [(3, 1)] [4] base0 (H.c .nil)⟩
 ·
  have hb2 := hb
  try simp only [hS, hE, ne_eq] at hb
  first | rw [if_pos hb2] at h | rw [if_neg (Bool.eq_false_iff.1 hb2)] at h | rw [if_pos hb] at h | rw [if_neg hb] at h | (simp only [hb, hT, reduceIte] at h) | skip
  refine L.Gs hb2 (S.ld Tryd.underlying22) ?_
  refine L.Gy hb2 (Y.ln Tryd.underlying22) ?_
  replace h := Option.bind_eq_some_iff.1 h
  obtain ⟨t181, hc5, h⟩ := h
  refine L.GC hb2 (C.callE (l := true) [] Tryd.func68 (impl_within.ac _ _ _ _ hc5) .nil ?_)
  refine L.Gy hb2 Y.nt ?_
  refine L.Y (Y.pk (c := false) hb2) ?_
  refine L.Y Y.mv ?_
  refine L.Gc (fun hb => ?_) (fun hb => ?_)
  ·
   have hb6 := hb
   try simp only [hS, hE, ne_eq] at hb
   first | rw [if_pos hb6] at h | rw [if_neg (Bool.eq_false_iff.1 hb6)] at h | rw [if_pos hb] at h | rw [if_neg hb] at h | (simp only [hb, hT, reduceIte] at h) | skip
   refine L.Gn hb6 ?_
   refine L.Gn hb6 ?_
   refine L.Gn hb6 ?_
   refine L.Gn hb6 ?_
   refine L.Y (Y.pk (c := true) hb6) ?_
   refine AList.nil ?_
   rcases k with _ | k
   ·
    exact absurd h (by simp [impl_TableOfOrder.j0])
   simp only [impl_TableOfOrder.j0] at h
   refine W.cond (fun hb => ?_) (fun hb => ?_)
   rotate_left
   ·
    first | exact Bool.false_ne_true ((Eq.symm (by assumption)).trans hb) | exact Bool.false_ne_true (hb.symm.trans (by assumption)) | exact DD hb
   have hb7 := hb
   try (first | rw [if_pos hb7] at h | rw [if_neg (Bool.eq_false_iff.1 hb7)] at h | rw [if_pos hb] at h | rw [if_neg hb] at h | (simp only [hb, hT, reduceIte] at h) | skip)
   refine AWp.seq ?_
   refine W.kp [0, 1, 2, 3, 4, 5, 6, 7, 22] ?_
   refine AWp.region ?_
   refine L.Y (Y.bd Tryd.underlying27 Y27 P27) ?_
   refine L.S (S.stb Y27) ?_
   refine L.Y Y.asg ?_
   refine AList.nil ?_
   simp only [Option.some.injEq, Prod.mk.injEq] at h
   obtain ⟨rfl, rfl, rfl, rfl⟩ := h
   refine AWp.ret ?_
   exact ⟨.inr rfl, _, _, _, Res.c2 Tryd.underlying27 Y27, ⟨rfl, rfl⟩, PartV.at [(3, 1)] [4] base0 (H.c .nil)⟩
  ·
   have hb6 := hb
   try simp only [hS, hE, ne_eq] at hb
   first | rw [if_pos hb6] at h | rw [if_neg (Bool.eq_false_iff.1 hb6)] at h | rw [if_pos hb] at h | rw [if_neg hb] at h | (simp only [hb, hT, reduceIte] at h) | skip
   refine L.Gs hb6 (S.ld Tryd.underlying22) ?_
   refine L.Gy hb6 (Y.ln Tryd.underlying22) ?_
   replace h := Option.bind_eq_some_iff.1 h
   obtain ⟨t182, hc8, h⟩ := h
   refine L.GC hb6 (C.callE (l := true) [] Tryd.func68 (impl_within.ac _ _ _ _ hc8) .nil ?_)
   refine L.Gy hb6 Y.nt ?_
   refine L.Y (Y.pk (c := false) hb6) ?_
   refine AList.nil ?_
   rcases k with _ | k
   ·
    exact absurd h (by simp [impl_TableOfOrder.j0])
   simp only [impl_TableOfOrder.j0] at h
   refine W.cond (fun hb => ?_) (fun hb => ?_)
   ·
    have hb9 := hb
    try simp only [hS, hE, ne_eq] at hb
    first | rw [if_pos hb9] at h | rw [if_neg (Bool.eq_false_iff.1 hb9)] at h | rw [if_pos hb] at h | rw [if_neg hb] at h | (simp only [hb, hT, reduceIte] at h) | skip
    refine AWp.seq ?_
    refine W.kp [0, 1, 2, 3, 4, 5, 6, 7, 22] ?_
    refine AWp.region ?_
    refine L.Y (Y.bd Tryd.underlying27 Y27 P27) ?_
    refine L.S (S.stb Y27) ?_
    refine L.Y Y.asg ?_
    refine AList.nil ?_
    simp only [Option.some.injEq, Prod.mk.injEq] at h
    obtain ⟨rfl, rfl, rfl, rfl⟩ := h
    refine AWp.ret ?_
    exact ⟨.inr rfl, _, _, _, Res.c2 Tryd.underlying27 Y27, ⟨rfl, rfl⟩, PartV.at [(3, 1)] [4] base0 (H.c .nil)⟩
   ·
    have hb9 := hb
    try simp only [hS, hE, ne_eq] at hb
    first | rw [if_pos hb9] at h | rw [if_neg (Bool.eq_false_iff.1 hb9)] at h | rw [if_pos hb] at h | rw [if_neg hb] at h | (simp only [hb, hT, reduceIte] at h) | skip
    refine AWp.skip ?_
    refine AWp.seq ?_
    refine AWp.seq ?_
    refine W.kp [0, 1, 2, 3, 4, 5, 6, 7, 22] ?_
    refine AWp.region ?_
    refine L.S (S.ldN Tryd.underlying30 Y30) ?_
    refine L.S (S.ld Tryd.underlying22) ?_
    replace h := Option.bind_eq_some_iff.1 h
    obtain ⟨t183, hc10, h⟩ := h
    refine L.C (C.callE (l := true) [] Tryd.func69 (impl_Order_has.ac _ _ _ _ _ hc10) .nil ?_)
    refine L.Y Y.nt ?_
    refine L.Y Y.mv ?_
    refine L.Gc (fun hb => ?_) (fun hb => ?_)
    ·
     have hb11 := hb
     try simp only [hS, hE, ne_eq] at hb
     first | rw [if_pos hb11] at h | rw [if_neg (Bool.eq_false_iff.1 hb11)] at h | rw [if_pos hb] at h | rw [if_neg hb] at h | (simp only [hb, hT, reduceIte] at h) | skip
     refine L.Gn hb11 ?_
     refine L.Gn hb11 ?_
     refine L.Gn hb11 ?_
     refine L.Gn hb11 ?_
     refine L.Y (Y.pk (c := true) hb11) ?_
     refine L.Y Y.mv ?_
     refine L.Gc (fun hb => ?_) (fun hb => ?_)
     rotate_left
     ·
      first | exact Bool.false_ne_true ((Eq.symm (by assumption)).trans hb) | exact Bool.false_ne_true (hb.symm.trans (by assumption)) | exact DD hb
     have hb12 := hb
     refine L.Gn hb12 ?_
     refine L.Gn hb12 ?_
     refine L.Gn hb12 ?_
     refine L.Y (Y.pk (c := true) hb12) ?_
     refine L.Y Y.mv ?_
     refine L.Gc (fun hb => ?_) (fun hb => ?_)
     rotate_left
     ·
      first | exact Bool.false_ne_true ((Eq.symm (by assumption)).trans hb) | exact Bool.false_ne_true (hb.symm.trans (by assumption)) | exact DD hb
     have hb13 := hb
     refine L.Gn hb13 ?_
     refine L.Gn hb13 ?_
     refine L.Gn hb13 ?_
     refine L.Y (Y.pk (c := true) hb13) ?_
     refine AList.nil ?_
     refine W.cond (fun hb => ?_) (fun hb => ?_)
     rotate_left
     ·
      first | exact Bool.false_ne_true ((Eq.symm (by assumption)).trans hb) | exact Bool.false_ne_true (hb.symm.trans (by assumption)) | exact DD hb
     have hb14 := hb
     refine AWp.seq ?_
     refine W.kp [0, 1, 2, 3, 4, 5, 6, 7, 22, 43] ?_
     refine AWp.region ?_
     refine L.Y (Y.bd Tryd.underlying27 Y27 P27) ?_
     refine L.S (S.stb Y27) ?_
     refine L.Y Y.asg ?_
     refine AList.nil ?_
     simp only [Option.some.injEq, Prod.mk.injEq] at h
     obtain ⟨rfl, rfl, rfl, rfl⟩ := h
     refine AWp.ret ?_
     exact ⟨.inr rfl, _, _, _, Res.c2 Tryd.underlying27 Y27, ⟨rfl, rfl⟩, PartV.at [(3, 1)] [4] base0 (H.c .nil)⟩
    ·
     have hb11 := hb
     try simp only [hS, hE, ne_eq] at hb
     first | rw [if_pos hb11] at h | rw [if_neg (Bool.eq_false_iff.1 hb11)] at h | rw [if_pos hb] at h | rw [if_neg hb] at h | (simp only [hb, hT, reduceIte] at h) | skip
     refine L.Gs hb11 (S.ldN Tryd.underlying30 Y30) ?_
     refine L.Gs hb11 (S.ld Tryd.underlying22) ?_
     replace h := Option.bind_eq_some_iff.1 h
     obtain ⟨t184, hc15, h⟩ := h
     refine L.GC hb11 (C.callE (l := true) [] Tryd.func69 (impl_Order_has.ac _ _ _ _ _ hc15) .nil ?_)
     refine L.Gy hb11 Y.nt ?_
     refine L.Y (Y.pk (c := false) hb11) ?_
     refine L.Y Y.mv ?_
     refine L.Gc (fun hb => ?_) (fun hb => ?_)
     ·
      have hb16 := hb
      try simp only [hS, hE, ne_eq] at hb
      first | rw [if_pos hb16] at h | rw [if_neg (Bool.eq_false_iff.1 hb16)] at h | rw [if_pos hb] at h | rw [if_neg hb] at h | (simp only [hb, hT, reduceIte] at h) | skip
      refine L.Gn hb16 ?_
      refine L.Gn hb16 ?_
      refine L.Gn hb16 ?_
      refine L.Y (Y.pk (c := true) hb16) ?_
      refine L.Y Y.mv ?_
      refine L.Gc (fun hb => ?_) (fun hb => ?_)
      rotate_left
      ·
       first | exact Bool.false_ne_true ((Eq.symm (by assumption)).trans hb) | exact Bool.false_ne_true (hb.symm.trans (by assumption)) | exact DD hb
      have hb17 := hb
      refine L.Gn hb17 ?_
      refine L.Gn hb17 ?_
      refine L.Gn hb17 ?_
      refine L.Y (Y.pk (c := true) hb17) ?_
      refine AList.nil ?_
      refine W.cond (fun hb => ?_) (fun hb => ?_)
      rotate_left
      ·
       first | exact Bool.false_ne_true ((Eq.symm (by assumption)).trans hb) | exact Bool.false_ne_true (hb.symm.trans (by assumption)) | exact DD hb
      have hb18 := hb
      refine AWp.seq ?_
      refine W.kp [0, 1, 2, 3, 4, 5, 6, 7, 22, 43] ?_
      refine AWp.region ?_
      refine L.Y (Y.bd Tryd.underlying27 Y27 P27) ?_
      refine L.S (S.stb Y27) ?_
      refine L.Y Y.asg ?_
      refine AList.nil ?_
      simp only [Option.some.injEq, Prod.mk.injEq] at h
      obtain ⟨rfl, rfl, rfl, rfl⟩ := h
      refine AWp.ret ?_
      exact ⟨.inr rfl, _, _, _, Res.c2 Tryd.underlying27 Y27, ⟨rfl, rfl⟩, PartV.at [(3, 1)] [4] base0 (H.c .nil)⟩
     ·
      have hb16 := hb
      try simp only [hS, hE, ne_eq] at hb
      first | rw [if_pos hb16] at h | rw [if_neg (Bool.eq_false_iff.1 hb16)] at h | rw [if_pos hb] at h | rw [if_neg hb] at h | (simp only [hb, hT, reduceIte] at h) | skip
      refine L.Gs hb16 (S.ld Tryd.underlying22) ?_
      replace h := Option.bind_eq_some_iff.1 h
      obtain ⟨t185, hc19, h⟩ := h
      refine L.GC hb16 (C.callE (l := true) [] Tryd.func70 (impl_isIncreasing.ac _ _ _ hc19) .nil ?_)
      refine L.Gy hb16 Y.nt ?_
      refine L.Y (Y.pk (c := false) hb16) ?_
      refine L.Y Y.mv ?_
      refine L.Gc (fun hb => ?_) (fun hb => ?_)
      ·
       have hb20 := hb
       try simp only [hS, hE, ne_eq] at hb
       first | rw [if_pos hb20] at h | rw [if_neg (Bool.eq_false_iff.1 hb20)] at h | rw [if_pos hb] at h | rw [if_neg hb] at h | (simp only [hb, hT, reduceIte] at h) | skip
       refine L.Gn hb20 ?_
       refine L.Gn hb20 ?_
       refine L.Gn hb20 ?_
       refine L.Y (Y.pk (c := true) hb20) ?_
       refine AList.nil ?_
       refine W.cond (fun hb => ?_) (fun hb => ?_)
       rotate_left
       ·
        first | exact Bool.false_ne_true ((Eq.symm (by assumption)).trans hb) | exact Bool.false_ne_true (hb.symm.trans (by assumption)) | exact DD hb
       have hb21 := hb
       refine AWp.seq ?_
       refine W.kp [0, 1, 2, 3, 4, 5, 6, 7, 22, 43] ?_
       refine AWp.region ?_
       refine L.Y (Y.bd Tryd.underlying27 Y27 P27) ?_
       refine L.S (S.stb Y27) ?_
       refine L.Y Y.asg ?_
       refine AList.nil ?_
       simp only [Option.some.injEq, Prod.mk.injEq] at h
       obtain ⟨rfl, rfl, rfl, rfl⟩ := h
       refine AWp.ret ?_
       exact ⟨.inr rfl, _, _, _, Res.c2 Tryd.underlying27 Y27, ⟨rfl, rfl⟩, PartV.at [(3, 1)] [4] base0 (H.c .nil)⟩
      ·
       have hb20 := hb
       try simp only [hS, hE, ne_eq] at hb
       first | rw [if_pos hb20] at h | rw [if_neg (Bool.eq_false_iff.1 hb20)] at h | rw [if_pos hb] at h | rw [if_neg hb] at h | (simp only [hb, hT, reduceIte] at h) | skip
       refine L.Gs hb20 (S.ld Tryd.underlying22) ?_
       replace h := Option.bind_eq_some_iff.1 h
       obtain ⟨t186, hc22, h⟩ := h
       refine L.GC hb20 (C.callE (l := true) [] Tryd.func70 (impl_isIncreasing.ac _ _ _ hc22) .nil ?_)
       refine L.Gy hb20 Y.nt ?_
       refine L.Y (Y.pk (c := false) hb20) ?_
       refine AList.nil ?_
       refine W.cond (fun hb => ?_) (fun hb => ?_)
       ·
        have hb23 := hb
        try simp only [hS, hE, ne_eq] at hb
        first | rw [if_pos hb23] at h | rw [if_neg (Bool.eq_false_iff.1 hb23)] at h | rw [if_pos hb] at h | rw [if_neg hb] at h | (simp only [hb, hT, reduceIte] at h) | skip
        refine AWp.seq ?_
        refine W.kp [0, 1, 2, 3, 4, 5, 6, 7, 22, 43] ?_
        refine AWp.region ?_
        refine L.Y (Y.bd Tryd.underlying27 Y27 P27) ?_
        refine L.S (S.stb Y27) ?_
        refine L.Y Y.asg ?_
        refine AList.nil ?_
        simp only [Option.some.injEq, Prod.mk.injEq] at h
        obtain ⟨rfl, rfl, rfl, rfl⟩ := h
        refine AWp.ret ?_
        exact ⟨.inr rfl, _, _, _, Res.c2 Tryd.underlying27 Y27, ⟨rfl, rfl⟩, PartV.at [(3, 1)] [4] base0 (H.c .nil)⟩
       ·
        have hb23 := hb
        try simp only [hS, hE, ne_eq] at hb
        first | rw [if_pos hb23] at h | rw [if_neg (Bool.eq_false_iff.1 hb23)] at h | rw [if_pos hb] at h | rw [if_neg hb] at h | (simp only [hb, hT, reduceIte] at h) | skip
        refine AWp.skip ?_
        refine AWp.seq ?_
        refine W.kp [0, 1, 2, 3, 4, 5, 6, 7, 22, 43] ?_
        refine AWp.region ?_
        refine L.S (S.ld Tryd.underlying22) ?_
        refine L.Y (Y.ln Tryd.underlying22) ?_
        refine L.S (S.ld Tryd.underlying22) ?_
        refine L.Y (Y.ln Tryd.underlying22) ?_
        refine L.Y Y.fn ?_
        replace h := Option.bind_eq_some_iff.1 h
        obtain ⟨⟨t187, t188, t189⟩, hc24, h⟩ := h
        dsimp only at h
        refine L.C (C.callE (l := true) [] Tryd.func71 (impl_table.ac _ _ _ _ _ _ _ hc24 72 _ (FnOk.at_ Tryd.func72) (by simp [noids, noid, noids_ints]) (fun x_ y_ r_ h_ => impl_TableOfOrder_1.ac x_ y_ _ _ _ _ r_ h_)) .nil ?_)
        refine L.S (S.stb Y27) ?_
        refine L.Y Y.asg ?_
        refine AList.nil ?_
        simp only [Option.some.injEq, Prod.mk.injEq] at h
        obtain ⟨rfl, rfl, rfl, rfl⟩ := h
        refine AWp.ret ?_
        exact ⟨.inr rfl, _, _, _, Res.c2 Tryd.underlying27 Y27, ⟨rfl, rfl⟩, PartV.at [] [4] base0 (H.c .nil)⟩

/-! ### laws_big: function 22 -/
def laws_big.f (l0 : List Int) (l1 : List Int) : Option (Bool) := if (l0.length : Int) > 1048576 then (some true) else (some (decide ((l1.length : Int) > (wrap64 (1048576 - (l0.length : Int))))))
set_option maxRecDepth 100000 in
set_option maxHeartbeats 20000000 in
theorem laws_big.ac (l0 : List Int) (l1 : List Int) (r : Bool) (h : laws_big.f l0 l1 = some r) :
  ACalls Tryd.prog 22 [.row 1 l0.length false (ints .u8 l0), .row 1 l1.length false (ints .u8 l1)] [] (fun v H' => v = .lit (.bool r) ∧ H' = []) := by
 refine ACalls.ofP [4] Tryd.func22 rfl (by exact Nat.le_of_ble_eq_true rfl) rfl (by decide) ?_
 simp only [Tryd.ntmps22, env0, laws_big.f] at h ⊢
 refine AWp.seq ?_
 refine AWp.region ?_
 refine L.Y Y.asg ?_
 refine AList.nil ?_
 refine AWp.seq ?_
 refine AWp.region ?_
 refine L.Y Y.mv ?_
 refine L.Y (Y.ln Tryd.underlying40) ?_
 refine L.Y Y.bin ?_
 refine L.Y Y.mv ?_
 refine L.Gc (fun hb => ?_) (fun hb => ?_)
 ·
  have hb1 := hb
  try simp only [hS, hE, ne_eq] at hb
  first | rw [if_pos hb1] at h | rw [if_neg (Bool.eq_false_iff.1 hb1)] at h | rw [if_pos hb] at h | rw [if_neg hb] at h | (simp only [hb, hT, reduceIte] at h) | skip
  refine L.Gn hb1 ?_
  refine L.Gn hb1 ?_
  refine L.Gn hb1 ?_
  refine L.Gn hb1 ?_
  refine L.Gn hb1 ?_
  refine L.Gn hb1 ?_
  refine L.Y (Y.pk (c := true) hb1) ?_
  refine L.Y Y.asg ?_
  refine AList.nil ?_
  obtain rfl := Option.some.inj h
  refine AWp.ret ?_
  exact ⟨.inr rfl, [(4, _)], _, ⟨rfl, rfl⟩, IsPart.at [] [] base0 .nil (E.c .nil)⟩
 ·
  have hb1 := hb
  try simp only [hS, hE, ne_eq] at hb
  first | rw [if_pos hb1] at h | rw [if_neg (Bool.eq_false_iff.1 hb1)] at h | rw [if_pos hb] at h | rw [if_neg hb] at h | (simp only [hb, hT, reduceIte] at h) | skip
  refine L.Gy hb1 Y.mv ?_
  refine L.Gy hb1 (Y.ln Tryd.underlying40) ?_
  refine L.Gy hb1 Y.mv ?_
  refine L.Gy hb1 (Y.ln Tryd.underlying40) ?_
  refine L.Gy hb1 Y.bin ?_
  refine L.Gy hb1 Y.bin ?_
  refine L.Y (Y.pk (c := false) hb1) ?_
  refine L.Y Y.asg ?_
  refine AList.nil ?_
  obtain rfl := Option.some.inj h
  refine AWp.ret ?_
  exact ⟨.inr rfl, [(4, _)], _, ⟨rfl, rfl⟩, IsPart.at [] [] base0 .nil (E.c .nil)⟩

/-- A state of type 82 at block g of W; what its slices lead to came in by w0. -/
def IsS82 (w0 W : World) (g : Nat) (f0 : List Int) (f1 : Int) (f2 : Int) : Prop := ∃ A0 c0, W.heap[g]? = some (.cells #[.slice A0 f0.length c0, .int .i64 f1, .int .u64 f2] 82 (0, 0)) ∧ w0.heap.size ≤ g ∧ Kd.C (Kd.int .u8) w0 A0 f0.length f0
theorem IsS82.grown {w0 W : World} {g : Nat} {f0 : List Int} {f1 : Int} {f2 : Int} {W1 : World} {row : Option Nat} (h : IsS82 w0 W g f0 f1 f2) (hw : W.grownBy W1 row) (hne : some g ≠ row) : IsS82 w0 W1 g f0 f1 f2 := by
 obtain ⟨A0, c0, hb, hg, hr0⟩ := h
 exact ⟨A0, c0, blk_grown hb hw hne, hg, hr0⟩
theorem IsS82.own_neN {w0 W : World} {g : Nat} {f0 : List Int} {f1 : Int} {f2 : Int} {α : Type} {d : Kd α} {e : Nat} {base : Nat} {ok : Nat → Prop} {v : Value} {xs : List α} (h : IsS82 w0 W g f0 f1 f2) (ho : Kd.N d e W base ok v xs) (ht : e ≠ 82) : some g ≠ v.ownBlock := by
 obtain ⟨A0, c0, hb, hg, hr0⟩ := h
 exact Kd.N_ne ho hb ht
theorem IsS82.fresh {w0 W : World} {g : Nat} {f0 : List Int} {f1 : Int} {f2 : Int} (h : IsS82 w0 W g f0 f1 f2) : ∀ k, W.heap.size ≤ k → k ≠ g := by
 obtain ⟨A0, c0, hb, hg, hr0⟩ := h
 exact Kd.freshB hb
theorem IsS82.kept {w0 W : World} {g : Nat} {f0 : List Int} {f1 : Int} {f2 : Int} {W1 : World} {S : Nat → Prop} (h : IsS82 w0 W g f0 f1 f2) (hk : Kept W W1 S) (hne : ¬ S g) : IsS82 w0 W1 g f0 f1 f2 := by
 obtain ⟨A0, c0, hb, hg, hr0⟩ := h
 exact ⟨A0, c0, blk_kept hb hk hne, hg, hr0⟩
theorem IsS82.below {w0 W : World} {g : Nat} {f0 : List Int} {f1 : Int} {f2 : Int} {W1 : World} (h : IsS82 w0 W g f0 f1 f2) (hw : Below W.heap.size W W1) : IsS82 w0 W1 g f0 f1 f2 := h.grown (grown_of_below hw none) (by simp)
theorem IsS82.alloc {w0 W : World} {g : Nat} {f0 : List Int} {f1 : Int} {f2 : Int} (h : IsS82 w0 W g f0 f1 f2) (o : Obj) : IsS82 w0 (W.alloc o) g f0 f1 f2 := h.below (below_alloc (Below.refl _ _) o)
theorem IsS82.drewN {w0 W : World} {g : Nat} {f0 : List Int} {f1 : Int} {f2 : Int} (h : IsS82 w0 W g f0 f1 f2) (m : Nat) : IsS82 w0 (W.drewN m) g f0 f1 f2 := h
theorem IsS82.drew {w0 W : World} {g : Nat} {f0 : List Int} {f1 : Int} {f2 : Int} (h : IsS82 w0 W g f0 f1 f2) : IsS82 w0 W.drew g f0 f1 f2 := h
theorem IsS82.at_ {w0 W : World} {g : Nat} {f0 : List Int} {f1 : Int} {f2 : Int} {w' : World} {m : Nat} (hq : W.drewN m = w') (h : IsS82 w0 W g f0 f1 f2) : IsS82 w0 w' g f0 f1 f2 := by subst hq; exact IsS82.drewN h m
theorem IsS82.apart {w0 W : World} {g : Nat} {f0 : List Int} {f1 : Int} {f2 : Int} {α : Type} {d : Kd α} {e : Nat} {base : Nat} {ok : Nat → Prop} {v : Value} {xs : List α} (h : IsS82 w0 W g f0 f1 f2) (ho : d.R e W base ok v xs) (ht : ∀ q, q ∈ e :: d.E → q ≠ 82) : d.R e W base (fun k => ok k ∧ k ≠ g) v xs := by
 obtain ⟨A0, c0, hb, hg, hr0⟩ := h
 exact Kd.R_types ho hb ht
theorem IsS82.own_ne {w0 W : World} {g : Nat} {f0 : List Int} {f1 : Int} {f2 : Int} {α : Type} {d : Kd α} {e : Nat} {base : Nat} {ok : Nat → Prop} {v : Value} {xs : List α} (h : IsS82 w0 W g f0 f1 f2) (ho : d.R e W base ok v xs) (ht : e ≠ 82) : some g ≠ v.ownBlock := by
 obtain ⟨A0, c0, hb, hg, hr0⟩ := h
 exact Kd.R_ne ho hb ht
theorem IsS82.apartQ {w0 W : World} {g : Nat} {f0 : List Int} {f1 : Int} {f2 : Int} {α : Type} {d : Kd α} {e : Nat} {base : Nat} {ok : Nat → Prop} {v : Value} {xs : List α} (h : IsS82 w0 W g f0 f1 f2) (ho : d.Q e W base ok v xs) (ht : ∀ q, q ∈ e :: d.E → q ≠ 82) : d.Q e W base (fun k => ok k ∧ k ≠ g) v xs := by
 obtain ⟨A0, c0, hb, hg, hr0⟩ := h
 exact Kd.Q_types ho hb ht
theorem IsS82.own_neQ {w0 W : World} {g : Nat} {f0 : List Int} {f1 : Int} {f2 : Int} {α : Type} {d : Kd α} {e : Nat} {base : Nat} {ok : Nat → Prop} {v : Value} {xs : List α} (h : IsS82 w0 W g f0 f1 f2) (ho : d.Q e W base ok v xs) (ht : e ≠ 82) : some g ≠ v.ownBlock := by
 obtain ⟨A0, c0, hb, hg, hr0⟩ := h
 exact Kd.Q_ne ho hb ht
theorem IsS82.apartS {w0 W : World} {g : Nat} {f0 : List Int} {f1 : Int} {f2 : Int} {α : Type} {d : Kd α} {e : Nat} {base : Nat} {ok : Nat → Prop} {v : Value} {xs : List α} (h : IsS82 w0 W g f0 f1 f2) (ho : d.S e W base ok v xs) (ht : ∀ q, q ∈ e :: d.E → q ≠ 82) : d.S e W base (fun k => ok k ∧ k ≠ g) v xs := by
 obtain ⟨A0, c0, hb, hg, hr0⟩ := h
 exact Kd.S_types ho hb ht
theorem IsS82.own_neS {w0 W : World} {g : Nat} {f0 : List Int} {f1 : Int} {f2 : Int} {α : Type} {d : Kd α} {e : Nat} {base : Nat} {ok : Nat → Prop} {v : Value} {xs : List α} (h : IsS82 w0 W g f0 f1 f2) (ho : d.S e W base ok v xs) (ht : e ≠ 82) : some g ≠ v.ownBlock := by
 obtain ⟨A0, c0, hb, hg, hr0⟩ := h
 exact Kd.S_ne ho hb ht
theorem IsS82.lt {w0 W : World} {g : Nat} {f0 : List Int} {f1 : Int} {f2 : Int} (h : IsS82 w0 W g f0 f1 f2) : g < W.heap.size := by
 obtain ⟨A0, c0, hb, hg, hr0⟩ := h
 exact blk_lt hb
theorem IsS82.ge {w0 W : World} {g : Nat} {f0 : List Int} {f1 : Int} {f2 : Int} (h : IsS82 w0 W g f0 f1 f2) : w0.heap.size ≤ g := by
 obtain ⟨A0, c0, hb, hg, hr0⟩ := h
 exact hg
theorem IsS82.ne_blk {w0 W : World} {g : Nat} {f0 : List Int} {f1 : Int} {f2 : Int} {a : Nat} {cs : Array Value} {t : TypeId} {fr : Nat × Nat} (h : IsS82 w0 W g f0 f1 f2) (hb2 : W.heap[a]? = some (.cells cs t fr)) (ht : t ≠ 82) : g ≠ a := by
 obtain ⟨A0, c0, hb, hg, hr0⟩ := h
 rintro rfl
 rw [hb] at hb2
 injection hb2 with hb2
 injection hb2 with _ ht2
 exact ht ht2.symm
theorem IsS82.far {w0 W : World} {g : Nat} {f0 : List Int} {f1 : Int} {f2 : Int} {p : Addr} (h : IsS82 w0 W g f0 f1 f2) (hne : g ≠ p.block) (u : Value) : IsS82 w0 (W.setCell p u) g f0 f1 f2 := by
 obtain ⟨A0, c0, hb, hg, hr0⟩ := h
 exact ⟨A0, c0, blk_far hb hne u, hg, hr0⟩
theorem cellS82_0 {W : World} {g : Nat} {A0 : Option Addr} {c0 : Nat} {f0 : List Int} {f1 : Int} {f2 : Int} (h : W.heap[g]? = some (.cells #[.slice A0 f0.length c0, .int .i64 f1, .int .u64 f2] 82 (0, 0))) : W.cell? ⟨g, 0, none⟩ = some (.slice A0 f0.length c0) := (blk_cell h 0).trans rfl
theorem cellS82_1 {W : World} {g : Nat} {A0 : Option Addr} {c0 : Nat} {f0 : List Int} {f1 : Int} {f2 : Int} (h : W.heap[g]? = some (.cells #[.slice A0 f0.length c0, .int .i64 f1, .int .u64 f2] 82 (0, 0))) : W.cell? ⟨g, 1, none⟩ = some (.int .i64 f1) := (blk_cell h 1).trans rfl
theorem IsS82.set_1 {w0 W : World} {g : Nat} {f0 : List Int} {f1 : Int} {f2 : Int} (h : IsS82 w0 W g f0 f1 f2) (x : Int) : IsS82 w0 (W.setCell ⟨g, 1, none⟩ (.int .i64 x)) g f0 x f2 := by
 obtain ⟨A0, c0, hb, hg, hr0⟩ := h
 exact ⟨A0, c0, by simpa using blk_set hb 1 (.int .i64 x), hg, hr0⟩
theorem cellS82_2 {W : World} {g : Nat} {A0 : Option Addr} {c0 : Nat} {f0 : List Int} {f1 : Int} {f2 : Int} (h : W.heap[g]? = some (.cells #[.slice A0 f0.length c0, .int .i64 f1, .int .u64 f2] 82 (0, 0))) : W.cell? ⟨g, 2, none⟩ = some (.int .u64 f2) := (blk_cell h 2).trans rfl
theorem IsS82.set_2 {w0 W : World} {g : Nat} {f0 : List Int} {f1 : Int} {f2 : Int} (h : IsS82 w0 W g f0 f1 f2) (x : Int) : IsS82 w0 (W.setCell ⟨g, 2, none⟩ (.int .u64 x)) g f0 f1 x := by
 obtain ⟨A0, c0, hb, hg, hr0⟩ := h
 exact ⟨A0, c0, by simpa using blk_set hb 2 (.int .u64 x), hg, hr0⟩
theorem IsS82.new (w0 W : World) (A0 : Option Addr) (c0 : Nat) (f0 : List Int) (f1 : Int) (f2 : Int) (hB : Below w0.heap.size w0 W) (hr0 : Kd.C (Kd.int .u8) w0 A0 f0.length f0) : IsS82 w0 (W.alloc (.cells #[.slice A0 f0.length c0, .int .i64 f1, .int .u64 f2] 82)) W.heap.size f0 f1 f2 := ⟨A0, c0, by simpa using heap_alloc_new W _, hB.size, hr0⟩

/-! ### spec_l1Cur_next: function 126 -/
def spec_l1Cur_next.f (s0_0 : List Int) (s0_1 : Int) (s0_2 : Int) : Option (Int × Int × Int) := if s0_1 < (s0_0.length : Int) then (if 0 ≤ s0_1 then (if (wrap64 (s0_1 + 1)) ≤ (s0_0.length : Int) then (some (wrap64 (rd s0_0 s0_1), wrap64 (s0_1 + 1), IntKind.u64.wrap ((IntKind.u64.wrap ((IntKind.u64.wrap (s0_2 * 6364136223846793005)) + (IntKind.u64.wrap (wrap64 (rd s0_0 s0_1))))) + 1442695040888963407))) else (some (wrap64 (Go.bits .and .u64 ((IntKind.u64.wrap ((IntKind.u64.wrap ((IntKind.u64.wrap (s0_2 * 6364136223846793005)) + (IntKind.u64.wrap (wrap64 (rd s0_0 s0_1))))) + 1442695040888963407)) / 1099511627776) 255), wrap64 (s0_1 + 1), IntKind.u64.wrap ((IntKind.u64.wrap ((IntKind.u64.wrap (s0_2 * 6364136223846793005)) + (IntKind.u64.wrap (wrap64 (rd s0_0 s0_1))))) + 1442695040888963407)))) else (none)) else (if (wrap64 (s0_1 + 1)) ≤ (s0_0.length : Int) then (some (0, wrap64 (s0_1 + 1), IntKind.u64.wrap ((IntKind.u64.wrap ((IntKind.u64.wrap (s0_2 * 6364136223846793005)) + 0)) + 1442695040888963407))) else (some (wrap64 (Go.bits .and .u64 ((IntKind.u64.wrap ((IntKind.u64.wrap ((IntKind.u64.wrap (s0_2 * 6364136223846793005)) + 0)) + 1442695040888963407)) / 1099511627776) 255), wrap64 (s0_1 + 1), IntKind.u64.wrap ((IntKind.u64.wrap ((IntKind.u64.wrap (s0_2 * 6364136223846793005)) + 0)) + 1442695040888963407))))
set_option maxRecDepth 100000 in
set_option maxHeartbeats 20000000 in
theorem spec_l1Cur_next.ac (s0_0 : List Int) (s0_1 : Int) (s0_2 : Int) (r1 : Int) (r2 : Int) (r3 : Int) (h : spec_l1Cur_next.f s0_0 s0_1 s0_2 = some (r1, r2, r3)) :
  ACalls Tryd.prog 126 [.ptr 0 0] [.bx 82 [.row 1 s0_0.length false (ints .u8 s0_0), .lit (.int .i64 s0_1), .lit (.int .u64 s0_2)]] (fun v H' => v = .lit (.int .i64 r1) ∧ H' = [.bx 82 [.row 1 s0_0.length false (ints .u8 s0_0), .lit (.int .i64 r2), .lit (.int .u64 r3)]]) := by
 refine ACalls.ofP [2] Tryd.func126 rfl (by exact Nat.le_of_ble_eq_true rfl) rfl (by decide) ?_
 simp only [Tryd.ntmps126, env0, spec_l1Cur_next.f] at h ⊢
 refine AWp.seq ?_
 refine AWp.region ?_
 refine L.Y Y.asg ?_
 refine AList.nil ?_
 refine AWp.seq ?_
 refine AWp.region ?_
 refine L.Y Y.asg ?_
 refine AList.nil ?_
 refine AWp.seq ?_
 refine AWp.seq ?_
 refine Dt.reg [] [] (.y 0 (.y 1 (.y 2 (.t 3 (.y 4 (.y 5 (.y 6 (.t 7 (.y 8 (.y 9 .done)))))))))) HM ?_
 refine Dt.Y rfl wantN Y.mv ?_
 refine Dt.Y rfl wantN Y.nc ?_
 refine Dt.Y rfl wantN (Y.fa (off := 1) Tryd.underlying82 Y3) ?_
 refine Dt.T rfl wantN (D.ld Tryd.underlying3) ?_
 refine Dt.Y rfl wantN Y.mv ?_
 refine Dt.Y rfl wantN Y.nc ?_
 refine Dt.Y rfl wantN (Y.fa (off := 0) Tryd.underlying82 Y40) ?_
 refine Dt.T rfl wantN (D.ld Tryd.underlying40) ?_
 refine Dt.Y rfl wantN (Y.ln Tryd.underlying40) ?_
 refine Dt.Y rfl wantN Y.bin ?_
 refine Dt.nil ?_
 refine W.cond (fun hb => ?_) (fun hb => ?_)
 ·
  have hb1 := hb
  try simp only [hS, hE, ne_eq] at hb
  first | rw [if_pos hb1] at h | rw [if_neg (Bool.eq_false_iff.1 hb1)] at h | rw [if_pos hb] at h | rw [if_neg hb] at h | (simp only [hb, hT, reduceIte] at h) | skip
  repeat (first | (rw [iN] at h; obtain ⟨_, h⟩ := h) | (rw [iP] at h; obtain ⟨_, h⟩ := h) | (simp only [bS] at h))
  refine W.kp [0, 2, 3, 13] ?_
  refine Dt.reg [] [] (.y 0 (.y 1 (.y 2 (.t 3 (.y 4 (.y 5 (.y 6 (.t 7 (.y 8 (.t 9 (.y 10 (.y 11 .done)))))))))))) HM ?_
  refine Dt.Y rfl wantN Y.mv ?_
  refine Dt.Y rfl wantN Y.nc ?_
  refine Dt.Y rfl wantN (Y.fa (off := 0) Tryd.underlying82 Y40) ?_
  refine Dt.T rfl wantN (D.ld Tryd.underlying40) ?_
  refine Dt.Y rfl wantN Y.mv ?_
  refine Dt.Y rfl wantN Y.nc ?_
  refine Dt.Y rfl wantN (Y.fa (off := 1) Tryd.underlying82 Y3) ?_
  refine Dt.T rfl wantN (D.ld Tryd.underlying3) ?_
  refine Dt.Y rfl wantN (Y.ixr Tryd.underlying40 Y5) ?_
  refine Dt.T rfl wantN (D.ld Tryd.underlying5) ?_
  refine Dt.Y rfl wantN (Y.cv Tryd.underlying5 Tryd.underlying3) ?_
  refine Dt.Y rfl wantN Y.asg ?_
  refine Dt.nil ?_
  refine AWp.seq ?_
  refine W.kp [0, 2, 3, 13] ?_
  refine AWp.region ?_
  refine L.Y Y.mv ?_
  refine L.Y Y.nc ?_
  refine L.Y (Y.fa (off := 1) Tryd.underlying82 Y3) ?_
  refine L.S (S.ld Tryd.underlying3) ?_
  refine L.Y Y.bin ?_
  refine L.Y Y.nc ?_
  refine L.Y (Y.fa (off := 1) Tryd.underlying82 Y3) ?_
  refine L.S (S.stb Y3) ?_
  refine AList.nil ?_
  refine AWp.seq ?_
  refine W.kp [0, 2, 3, 13] ?_
  refine AWp.region ?_
  refine L.Y Y.mv ?_
  refine L.Y Y.mv ?_
  refine L.Y Y.nc ?_
  refine L.Y (Y.fa (off := 2) Tryd.underlying82 Y80) ?_
  refine L.S (S.ld Tryd.underlying80) ?_
  refine L.Y Y.bin ?_
  refine L.Y Y.mv ?_
  refine L.Y (Y.cv Tryd.underlying3 Tryd.underlying80) ?_
  refine L.Y Y.bin ?_
  refine L.Y Y.bin ?_
  refine L.Y Y.nc ?_
  refine L.Y (Y.fa (off := 2) Tryd.underlying82 Y80) ?_
  refine L.S (S.stb Y80) ?_
  refine AList.nil ?_
  refine AWp.seq ?_
  refine AWp.seq ?_
  refine W.kp [0, 2, 3, 13] ?_
  refine Dt.reg [] [] (.y 0 (.y 1 (.y 2 (.t 3 (.y 4 (.y 5 (.y 6 (.t 7 (.y 8 (.y 9 .done)))))))))) HM ?_
  refine Dt.Y rfl wantN Y.mv ?_
  refine Dt.Y rfl wantN Y.nc ?_
  refine Dt.Y rfl wantN (Y.fa (off := 1) Tryd.underlying82 Y3) ?_
  refine Dt.T rfl wantN (D.ld Tryd.underlying3) ?_
  refine Dt.Y rfl wantN Y.mv ?_
  refine Dt.Y rfl wantN Y.nc ?_
  refine Dt.Y rfl wantN (Y.fa (off := 0) Tryd.underlying82 Y40) ?_
  refine Dt.T rfl wantN (D.ld Tryd.underlying40) ?_
  refine Dt.Y rfl wantN (Y.ln Tryd.underlying40) ?_
  refine Dt.Y rfl wantN Y.bin ?_
  refine Dt.nil ?_
  refine W.cond (fun hb => ?_) (fun hb => ?_)
  ·
   have hb2 := hb
   try simp only [hS, hE, ne_eq] at hb
   first | rw [if_pos hb2] at h | rw [if_neg (Bool.eq_false_iff.1 hb2)] at h | rw [if_pos hb] at h | rw [if_neg hb] at h | (simp only [hb, hT, reduceIte] at h) | skip
   refine AWp.seq ?_
   refine W.kp [0, 2, 3, 13, 53] ?_
   refine AWp.region ?_
   refine L.Y Y.mv ?_
   refine L.Y Y.asg ?_
   refine AList.nil ?_
   simp only [Option.some.injEq, Prod.mk.injEq] at h
   obtain ⟨rfl, rfl, rfl⟩ := h
   refine AWp.ret ?_
   exact ⟨.inr rfl, [(2, _)], _, ⟨rfl, rfl⟩, IsPart.at [] [0] base1 (H.c .nil) (E.c .nil)⟩
  ·
   have hb2 := hb
   try simp only [hS, hE, ne_eq] at hb
   first | rw [if_pos hb2] at h | rw [if_neg (Bool.eq_false_iff.1 hb2)] at h | rw [if_pos hb] at h | rw [if_neg hb] at h | (simp only [hb, hT, reduceIte] at h) | skip
   refine AWp.skip ?_
   refine AWp.seq ?_
   refine W.kp [0, 2, 3, 13, 53] ?_
   refine AWp.region ?_
   refine L.Y Y.mv ?_
   refine L.Y Y.nc ?_
   refine L.Y (Y.fa (off := 2) Tryd.underlying82 Y80) ?_
   refine L.S (S.ld Tryd.underlying80) ?_
   refine L.Y Y.bin ?_
   refine L.Y Y.bin ?_
   refine L.Y (Y.cv Tryd.underlying80 Tryd.underlying3) ?_
   refine L.Y Y.asg ?_
   refine AList.nil ?_
   simp only [Option.some.injEq, Prod.mk.injEq] at h
   obtain ⟨rfl, rfl, rfl⟩ := h
   refine AWp.ret ?_
   exact ⟨.inr rfl, [(2, _)], _, ⟨rfl, rfl⟩, IsPart.at [] [0] base1 (H.c .nil) (E.c .nil)⟩
 ·
  have hb1 := hb
  try simp only [hS, hE, ne_eq] at hb
  first | rw [if_pos hb1] at h | rw [if_neg (Bool.eq_false_iff.1 hb1)] at h | rw [if_pos hb] at h | rw [if_neg hb] at h | (simp only [hb, hT, reduceIte] at h) | skip
  refine AWp.skip ?_
  refine AWp.seq ?_
  refine W.kp [0, 2, 3, 13] ?_
  refine AWp.region ?_
  refine L.Y Y.mv ?_
  refine L.Y Y.nc ?_
  refine L.Y (Y.fa (off := 1) Tryd.underlying82 Y3) ?_
  refine L.S (S.ld Tryd.underlying3) ?_
  refine L.Y Y.bin ?_
  refine L.Y Y.nc ?_
  refine L.Y (Y.fa (off := 1) Tryd.underlying82 Y3) ?_
  refine L.S (S.stb Y3) ?_
  refine AList.nil ?_
  refine AWp.seq ?_
  refine W.kp [0, 2, 3, 13] ?_
  refine AWp.region ?_
  refine L.Y Y.mv ?_
  refine L.Y Y.mv ?_
  refine L.Y Y.nc ?_
  refine L.Y (Y.fa (off := 2) Tryd.underlying82 Y80) ?_
  refine L.S (S.ld Tryd.underlying80) ?_
  refine L.Y Y.bin ?_
  refine L.Y Y.mv ?_
  refine L.Y (Y.cv Tryd.underlying3 Tryd.underlying80) ?_
  refine L.Y Y.bin ?_
  refine L.Y Y.bin ?_
  refine L.Y Y.nc ?_
  refine L.Y (Y.fa (off := 2) Tryd.underlying82 Y80) ?_
  refine L.S (S.stb Y80) ?_
  refine AList.nil ?_
  refine AWp.seq ?_
  refine AWp.seq ?_
  refine W.kp [0, 2, 3, 13] ?_
  refine Dt.reg [] [] (.y 0 (.y 1 (.y 2 (.t 3 (.y 4 (.y 5 (.y 6 (.t 7 (.y 8 (.y 9 .done)))))))))) HM ?_
  refine Dt.Y rfl wantN Y.mv ?_
  refine Dt.Y rfl wantN Y.nc ?_
  refine Dt.Y rfl wantN (Y.fa (off := 1) Tryd.underlying82 Y3) ?_
  refine Dt.T rfl wantN (D.ld Tryd.underlying3) ?_
  refine Dt.Y rfl wantN Y.mv ?_
  refine Dt.Y rfl wantN Y.nc ?_
  refine Dt.Y rfl wantN (Y.fa (off := 0) Tryd.underlying82 Y40) ?_
  refine Dt.T rfl wantN (D.ld Tryd.underlying40) ?_
  refine Dt.Y rfl wantN (Y.ln Tryd.underlying40) ?_
  refine Dt.Y rfl wantN Y.bin ?_
  refine Dt.nil ?_
  refine W.cond (fun hb => ?_) (fun hb => ?_)
  ·
   have hb3 := hb
   try simp only [hS, hE, ne_eq] at hb
   first | rw [if_pos hb3] at h | rw [if_neg (Bool.eq_false_iff.1 hb3)] at h | rw [if_pos hb] at h | rw [if_neg hb] at h | (simp only [hb, hT, reduceIte] at h) | skip
   refine AWp.seq ?_
   refine W.kp [0, 2, 3, 13, 53] ?_
   refine AWp.region ?_
   refine L.Y Y.mv ?_
   refine L.Y Y.asg ?_
   refine AList.nil ?_
   simp only [Option.some.injEq, Prod.mk.injEq] at h
   obtain ⟨rfl, rfl, rfl⟩ := h
   refine AWp.ret ?_
   exact ⟨.inr rfl, [(2, _)], _, ⟨rfl, rfl⟩, IsPart.at [] [0] base1 (H.c .nil) (E.c .nil)⟩
  ·
   have hb3 := hb
   try simp only [hS, hE, ne_eq] at hb
   first | rw [if_pos hb3] at h | rw [if_neg (Bool.eq_false_iff.1 hb3)] at h | rw [if_pos hb] at h | rw [if_neg hb] at h | (simp only [hb, hT, reduceIte] at h) | skip
   refine AWp.skip ?_
   refine AWp.seq ?_
   refine W.kp [0, 2, 3, 13, 53] ?_
   refine AWp.region ?_
   refine L.Y Y.mv ?_
   refine L.Y Y.nc ?_
   refine L.Y (Y.fa (off := 2) Tryd.underlying82 Y80) ?_
   refine L.S (S.ld Tryd.underlying80) ?_
   refine L.Y Y.bin ?_
   refine L.Y Y.bin ?_
   refine L.Y (Y.cv Tryd.underlying80 Tryd.underlying3) ?_
   refine L.Y Y.asg ?_
   refine AList.nil ?_
   simp only [Option.some.injEq, Prod.mk.injEq] at h
   obtain ⟨rfl, rfl, rfl⟩ := h
   refine AWp.ret ?_
   exact ⟨.inr rfl, [(2, _)], _, ⟨rfl, rfl⟩, IsPart.at [] [0] base1 (H.c .nil) (E.c .nil)⟩

/-! ### spec_l1Cur_pick: function 80 -/
def spec_l1Cur_pick.f (s0_0 : List Int) (s0_1 : Int) (s0_2 : Int) (a1 : Int) : Option (Int × Int × Int) := if a1 ≤ 1 then (some (0, s0_1, s0_2)) else ((spec_l1Cur_next.f s0_0 s0_1 s0_2).bind fun bt193 => (if a1 > 200 then ((spec_l1Cur_next.f s0_0 bt193.2.1 bt193.2.2).bind fun bt196 => (if a1 = 0 then (none) else (some (Int.tmod (wrap64 ((wrap64 (bt193.1 * 256)) + bt196.1)) a1, bt196.2.1, bt196.2.2)))) else (if a1 = 0 then (none) else (some (Int.tmod bt193.1 a1, bt193.2.1, bt193.2.2)))))
set_option maxRecDepth 100000 in
set_option maxHeartbeats 20000000 in
theorem spec_l1Cur_pick.ac (s0_0 : List Int) (s0_1 : Int) (s0_2 : Int) (a1 : Int) (r1 : Int) (r2 : Int) (r3 : Int) (h : spec_l1Cur_pick.f s0_0 s0_1 s0_2 a1 = some (r1, r2, r3)) :
  ACalls Tryd.prog 80 [.ptr 0 0, .lit (.int .i64 a1)] [.bx 82 [.row 1 s0_0.length false (ints .u8 s0_0), .lit (.int .i64 s0_1), .lit (.int .u64 s0_2)]] (fun v H' => v = .lit (.int .i64 r1) ∧ H' = [.bx 82 [.row 1 s0_0.length false (ints .u8 s0_0), .lit (.int .i64 r2), .lit (.int .u64 r3)]]) := by
 refine ACalls.ofP [4] Tryd.func80 rfl (by exact Nat.le_of_ble_eq_true rfl) rfl (by decide) ?_
 simp only [Tryd.ntmps80, env0, spec_l1Cur_pick.f] at h ⊢
 refine AWp.seq ?_
 refine AWp.region ?_
 refine L.Y Y.asg ?_
 refine AList.nil ?_
 refine AWp.seq ?_
 refine AWp.seq ?_
 refine AWp.region ?_
 refine L.Y Y.mv ?_
 refine L.Y Y.bin ?_
 refine AList.nil ?_
 refine W.cond (fun hb => ?_) (fun hb => ?_)
 ·
  have hb1 := hb
  try simp only [hS, hE, ne_eq] at hb
  first | rw [if_pos hb1] at h | rw [if_neg (Bool.eq_false_iff.1 hb1)] at h | rw [if_pos hb] at h | rw [if_neg hb] at h | (simp only [hb, hT, reduceIte] at h) | skip
  refine AWp.seq ?_
  refine AWp.region ?_
  refine L.Y Y.asg ?_
  refine AList.nil ?_
  simp only [Option.some.injEq, Prod.mk.injEq] at h
  obtain ⟨rfl, rfl, rfl⟩ := h
  refine AWp.ret ?_
  exact ⟨.inr rfl, [(4, _)], _, ⟨rfl, rfl⟩, IsPart.at [] [0] base1 (H.c .nil) (E.c .nil)⟩
 ·
  have hb1 := hb
  try simp only [hS, hE, ne_eq] at hb
  first | rw [if_pos hb1] at h | rw [if_neg (Bool.eq_false_iff.1 hb1)] at h | rw [if_pos hb] at h | rw [if_neg hb] at h | (simp only [hb, hT, reduceIte] at h) | skip
  refine AWp.skip ?_
  refine AWp.seq ?_
  refine AWp.region ?_
  refine L.Y Y.mv ?_
  replace h := Option.bind_eq_some_iff.1 h
  obtain ⟨⟨t193, t194, t195⟩, hc2, h⟩ := h
  dsimp only at h
  refine L.C (C.callE (l := false) [0] Tryd.func126 (spec_l1Cur_next.ac _ _ _ _ _ _ hc2) (H.c .nil) ?_)
  refine L.Y Y.asg ?_
  refine AList.nil ?_
  refine AWp.seq ?_
  refine AWp.seq ?_
  refine AWp.region ?_
  refine L.Y Y.mv ?_
  refine L.Y Y.bin ?_
  refine AList.nil ?_
  refine W.cond (fun hb => ?_) (fun hb => ?_)
  ·
   have hb3 := hb
   try simp only [hS, hE, ne_eq] at hb
   first | rw [if_pos hb3] at h | rw [if_neg (Bool.eq_false_iff.1 hb3)] at h | rw [if_pos hb] at h | rw [if_neg hb] at h | (simp only [hb, hT, reduceIte] at h) | skip
   refine W.kp [0, 1, 4, 5, 7, 11] ?_
   refine AWp.region ?_
   refine L.Y Y.mv ?_
   refine L.Y Y.bin ?_
   refine L.Y Y.mv ?_
   replace h := Option.bind_eq_some_iff.1 h
   obtain ⟨⟨t196, t197, t198⟩, hc4, h⟩ := h
   dsimp only at h
   repeat (first | (rw [iN] at h; obtain ⟨_, h⟩ := h) | (rw [iP] at h; obtain ⟨_, h⟩ := h) | (simp only [bS] at h))
   refine L.C (C.callE (l := false) [0] Tryd.func126 (spec_l1Cur_next.ac _ _ _ _ _ _ hc4) (H.c .nil) ?_)
   refine L.Y Y.bin ?_
   refine L.Y Y.asg ?_
   refine AList.nil ?_
   refine AWp.seq ?_
   refine W.kp [0, 1, 4, 5, 7, 11] ?_
   refine AWp.region ?_
   refine L.Y Y.mv ?_
   refine L.Y Y.mv ?_
   refine L.Y Y.bin ?_
   refine L.Y Y.asg ?_
   refine AList.nil ?_
   simp only [Option.some.injEq, Prod.mk.injEq] at h
   obtain ⟨rfl, rfl, rfl⟩ := h
   refine AWp.ret ?_
   exact ⟨.inr rfl, [(4, _)], _, ⟨rfl, rfl⟩, IsPart.at [] [0] base1 (H.c .nil) (E.c .nil)⟩
  ·
   have hb3 := hb
   try simp only [hS, hE, ne_eq] at hb
   first | rw [if_pos hb3] at h | rw [if_neg (Bool.eq_false_iff.1 hb3)] at h | rw [if_pos hb] at h | rw [if_neg hb] at h | (simp only [hb, hT, reduceIte] at h) | skip
   repeat (first | (rw [iN] at h; obtain ⟨_, h⟩ := h) | (rw [iP] at h; obtain ⟨_, h⟩ := h) | (simp only [bS] at h))
   refine AWp.skip ?_
   refine AWp.seq ?_
   refine W.kp [0, 1, 4, 5, 7, 11] ?_
   refine AWp.region ?_
   refine L.Y Y.mv ?_
   refine L.Y Y.mv ?_
   refine L.Y Y.bin ?_
   refine L.Y Y.asg ?_
   refine AList.nil ?_
   simp only [Option.some.injEq, Prod.mk.injEq] at h
   obtain ⟨rfl, rfl, rfl⟩ := h
   refine AWp.ret ?_
   exact ⟨.inr rfl, [(4, _)], _, ⟨rfl, rfl⟩, IsPart.at [] [0] base1 (H.c .nil) (E.c .nil)⟩

/-! ### spec_l1Cur_one: function 76 -/
def spec_l1Cur_one.f (s0_0 : List Int) (s0_1 : Int) (s0_2 : Int) (a1 : Int) : Option (Bool × Int × Int) := (spec_l1Cur_pick.f s0_0 s0_1 s0_2 a1).bind fun bt199 => (some ((bt199.1 == 0), bt199.2.1, bt199.2.2))
set_option maxRecDepth 100000 in
set_option maxHeartbeats 20000000 in
theorem spec_l1Cur_one.ac (s0_0 : List Int) (s0_1 : Int) (s0_2 : Int) (a1 : Int) (r1 : Bool) (r2 : Int) (r3 : Int) (h : spec_l1Cur_one.f s0_0 s0_1 s0_2 a1 = some (r1, r2, r3)) :
  ACalls Tryd.prog 76 [.ptr 0 0, .lit (.int .i64 a1)] [.bx 82 [.row 1 s0_0.length false (ints .u8 s0_0), .lit (.int .i64 s0_1), .lit (.int .u64 s0_2)]] (fun v H' => v = .lit (.bool r1) ∧ H' = [.bx 82 [.row 1 s0_0.length false (ints .u8 s0_0), .lit (.int .i64 r2), .lit (.int .u64 r3)]]) := by
 refine ACalls.ofP [4] Tryd.func76 rfl (by exact Nat.le_of_ble_eq_true rfl) rfl (by decide) ?_
 simp only [Tryd.ntmps76, env0, spec_l1Cur_one.f] at h ⊢
 refine AWp.seq ?_
 refine AWp.region ?_
 refine L.Y Y.asg ?_
 refine AList.nil ?_
 refine AWp.seq ?_
 refine AWp.region ?_
 refine L.Y Y.mv ?_
 refine L.Y Y.mv ?_
 replace h := Option.bind_eq_some_iff.1 h
 obtain ⟨⟨t199, t200, t201⟩, hc1, h⟩ := h
 dsimp only at h
 refine L.C (C.callE (l := false) [0] Tryd.func80 (spec_l1Cur_pick.ac _ _ _ _ _ _ _ hc1) (H.c .nil) ?_)
 refine L.Y Y.bin ?_
 refine L.Y Y.asg ?_
 refine AList.nil ?_
 simp only [Option.some.injEq, Prod.mk.injEq] at h
 obtain ⟨rfl, rfl, rfl⟩ := h
 refine AWp.ret ?_
 exact ⟨.inr rfl, [(4, _)], _, ⟨rfl, rfl⟩, IsPart.at [] [0] base1 (H.c .nil) (E.c .nil)⟩

end Go.Proofs.YtpippjgphndjmaaDoor.PFnOrdersAsTables
