-- Written by a program of this session's (wip/myprint2): the functions by the kit's print, the walks by awgen.py. Lean checks it.
import Derived.Test.YtpippjgphndjmaaDoorPFnRationalTablesx0
import Derived.Test.YtpippjgphndjmaaDoorPFnRationalTablesx2
import Derived.Test.YtpippjgphndjmaaDoorPFnRationalTablesx3
import Derived.Test.YtpippjgphndjmaaDoorPFnRationalTablesx5
namespace Go.Proofs.YtpippjgphndjmaaDoor.PFnRationalTables
open Go.RowKit Go.Proofs.YtpippjgphndjmaaDoorW.PrintWords Go.Proofs.YtpippjgphndjmaaDoorW.PrintLast Go.Proofs.YtpippjgphndjmaaDoorW.PrintMore Go.Proofs.YtpippjgphndjmaaDoorM Go.Proofs.YtpippjgphndjmaaDoorA Go.Proofs.YtpippjgphndjmaaDoorT
attribute [local go_sem] max2_int min2_int max_two min_two max_three min_three max_four min_four   -- for this text's walks alone
set_option linter.unusedVariables false
set_option linter.unusedSimpArgs false

/-! ### spec_l1Cur_chosen: function 137 -/
mutual
def spec_l1Cur_chosen.j0 : Nat → Int → List Int → List Int → Int → Int → Int → List Int → Option (Int × List Int × Int × Int)
 | 0, _, _, _, _, _, _, _ => none
 | k + 1, x4, x5, x1000, x1001, x1002, x249000, x249001 => (spec_orRelation.f k x249000 x249001).bind fun t258 => (if t258 = true then ((spec_cfAcyclic.f k x249000 x249001).bind fun t259 => (if t259 = true then ((spec_l1Cur_one.f x1000 x1001 x1002 2).bind fun bt260 => (spec_l1Cur_chosen.j1 k x4 x5 bt260.1 x1000 bt260.2.1 bt260.2.2 x249000 x249001)) else (spec_l1Cur_chosen.j1 k x4 x5 false x1000 x1001 x1002 x249000 x249001))) else (spec_l1Cur_chosen.j1 k x4 x5 false x1000 x1001 x1002 x249000 x249001))
def spec_l1Cur_chosen.j1 : Nat → Int → List Int → Bool → List Int → Int → Int → Int → List Int → Option (Int × List Int × Int × Int)
 | 0, _, _, _, _, _, _, _, _ => none
 | k + 1, x4, x5, x30, x1000, x1001, x1002, x249000, x249001 => if x30 = true then ((spec_cfTable.f k x249000 x249001).bind fun t263 => (spec_l1Cur_chosen.j3 k x249000 t263 x1000 x1001 x1002)) else (spec_l1Cur_chosen.l0 k x4 x5 0 x1000 x1001 x1002)
def spec_l1Cur_chosen.j3 : Nat → Int → List Int → List Int → Int → Int → Option (Int × List Int × Int × Int)
 | 0, _, _, _, _, _ => none
 | k + 1, x4, x5, x1000, x1001, x1002 => (spec_l1Cur_pick.f x1000 x1001 x1002 14).bind fun bt275 => (if bt275.1 = 0 then ((spec_l1Cur_pick.f x1000 bt275.2.1 bt275.2.2 (x5.length : Int)).bind fun bt278 => ((spec_l1Cur_among.f x1000 bt278.2.1 bt278.2.2 (([(-1), 0, 1, 2, 15, 16] : List Int))).bind fun bt284 => (if 0 ≤ bt278.1 then (if bt278.1 < (x5.length : Int) then (some (x4, (x5.set (bt278.1 : Int).toNat bt284.1), bt284.2.1, bt284.2.2)) else (none)) else (none)))) else (if bt275.1 = 1 then ((spec_l1Cur_among.f x1000 bt275.2.1 bt275.2.2 (([(-1), wrap64 (x4 + 1), 5] : List Int))).bind fun bt291 => (some (bt291.1, x5, bt291.2.1, bt291.2.2))) else (if bt275.1 = 2 then ((spec_l1Cur_pick.f x1000 bt275.2.1 bt275.2.2 (x5.length : Int)).bind fun bt294 => (if 0 ≤ bt294.1 then (if bt294.1 < (x5.length : Int) then (some (x4, (x5.set (bt294.1 : Int).toNat bt294.1), bt294.2.1, bt294.2.2)) else (none)) else (none))) else (if bt275.1 = 3 then ((spec_l1Cur_pick.f x1000 bt275.2.1 bt275.2.2 (x5.length : Int)).bind fun bt298 => (if 0 ≤ bt298.1 then (if bt298.1 < (x5.length : Int) then (some (x4, (x5.set (bt298.1 : Int).toNat bt298.1), bt298.2.1, bt298.2.2)) else (none)) else (none))) else (some (x4, x5, bt275.2.1, bt275.2.2))))))
def spec_l1Cur_chosen.l0 : Nat → Int → List Int → Int → List Int → Int → Int → Option (Int × List Int × Int × Int)
 | 0, _, _, _, _, _, _ => none
 | k + 1, x4, x5, x7, x1000, x1001, x1002 => if 0 ≤ x4 then (if x7 < (shl .i64 1 x4) then ((spec_l1Cur_pick.f x1000 x1001 x1002 (shl .i64 1 x4)).bind fun bt266 => (if (Go.bits .and .i64 x7 bt266.1) = 0 then (if x5.length < 17592186044416 then (spec_l1Cur_chosen.l0 k x4 (x5 ++ [x7]) (wrap64 (x7 + 1)) x1000 bt266.2.1 bt266.2.2) else (none)) else (if x5.length < 17592186044416 then (spec_l1Cur_chosen.l0 k x4 (x5 ++ [Go.bits .and .i64 x7 bt266.1]) (wrap64 (x7 + 1)) x1000 bt266.2.1 bt266.2.2) else (none)))) else (spec_l1Cur_chosen.j3 k x4 x5 x1000 x1001 x1002)) else (none)
end
def spec_l1Cur_chosen.f (k : Nat) (s0_0 : List Int) (s0_1 : Int) (s0_2 : Int) : Option (Int × List Int × Int × Int) := (spec_l1Cur_among.f s0_0 s0_1 s0_2 (([0, 1, 2, 3, 3, 3, 4] : List Int))).bind fun bt239 => ((spec_l1Cur_relation.f k s0_0 bt239.2.1 bt239.2.2 bt239.1).bind fun bt242 => ((spec_l1Cur_one.f s0_0 bt242.2.2.1 bt242.2.2.2 2).bind fun bt249 => (if bt249.1 = true then ((spec_l1Cur_order.f k s0_0 bt249.2.1 bt249.2.2 bt239.1).bind fun bt252 => (spec_l1Cur_chosen.j0 k bt239.1 ([] : List Int) s0_0 bt252.2.2.1 bt252.2.2.2 bt252.1 bt252.2.1)) else (spec_l1Cur_chosen.j0 k bt239.1 ([] : List Int) s0_0 bt249.2.1 bt249.2.2 bt242.1 bt242.2.1))))
set_option maxRecDepth 100000 in
set_option maxHeartbeats 20000000 in
theorem spec_l1Cur_chosen.ac (k : Nat) (s0_0 : List Int) (s0_1 : Int) (s0_2 : Int) (r1 : Int) (r2 : List Int) (r3 : Int) (r4 : Int) (h : spec_l1Cur_chosen.f k s0_0 s0_1 s0_2 = some (r1, r2, r3, r4)) :
  ACalls Tryd.prog 137 [.ptr 0 0] [.bx 82 [.row 1 s0_0.length false (ints .u8 s0_0), .lit (.int .i64 s0_1), .lit (.int .u64 s0_2)]] (fun v H' => v = .tup [.lit (.int .i64 r1), .own 1 r2.length] ∧ H' = [.bx 82 [.row 1 s0_0.length false (ints .u8 s0_0), .lit (.int .i64 r3), .lit (.int .u64 r4)], .sl 3 1 r2.length false (ints .i64 r2)]) := by
 refine ACalls.ofP [2, 3] Tryd.func137 rfl (by exact Nat.le_of_ble_eq_true rfl) rfl (by decide) ?_
 simp only [Tryd.ntmps137, env0, spec_l1Cur_chosen.f] at h ⊢
 repeat (first | (rw [iN] at h; obtain ⟨_, h⟩ := h) | (rw [iP] at h; obtain ⟨_, h⟩ := h) | (simp only [bS] at h))
 refine AWp.seq ?_
 refine AWp.region ?_
 refine L.Y Y.asg ?_
 refine L.Y Y.asg ?_
 refine AList.nil ?_
 refine AWp.seq ?_
 refine AWp.region ?_
 refine L.Y Y.mv ?_
 refine L.M (M.bs Tryd.underlying22 Y3) ?_
 obtain ⟨⟨t239, t240, t241⟩, hc1, h⟩ := Option.bind_eq_some_iff.1 h
 dsimp only at h
 refine L.C ?_
 refine C.frz 1 ?_
 refine C.callE (l := false) [0] Tryd.func81 (spec_l1Cur_among.ac _ _ _ _ _ _ _ hc1) (H.c .nil) ?_
 refine L.Y Y.asg ?_
 refine AList.nil ?_
 refine AWp.seq ?_
 refine AWp.region ?_
 refine L.Y Y.asg ?_
 refine AList.nil ?_
 refine AWp.seq ?_
 refine AWp.region ?_
 refine L.Y Y.mv ?_
 refine L.Y Y.mv ?_
 obtain ⟨⟨t242, t243, t246, t247⟩, hc2, h⟩ := Option.bind_eq_some_iff.1 h
 dsimp only at h
 refine L.C (C.callE (l := false) [0] Tryd.func77 (spec_l1Cur_relation.ac _ _ _ _ _ _ _ _ _ hc2) (H.c .nil) ?_)
 refine L.M (M.al Y30) ?_
 refine L.S (S.stb Y30) ?_
 refine AList.nil ?_
 refine AWp.seq ?_
 refine AWp.seq ?_
 refine W.kp [0, 2, 3, 4, 5, 6] ?_
 refine AWp.region ?_
 refine L.Y Y.mv ?_
 obtain ⟨⟨t249, t250, t251⟩, hc3, h⟩ := Option.bind_eq_some_iff.1 h
 dsimp only at h
 refine L.C (C.callE (l := false) [0] Tryd.func76 (spec_l1Cur_one.ac _ _ _ _ _ _ _ hc3) (H.c .nil) ?_)
 refine AList.nil ?_
 refine W.cond (fun hb => ?_) (fun hb => ?_)
 ·
  have hb4 := hb
  try simp only [hS, hE, ne_eq] at hb
  first | rw [if_pos hb4] at h | rw [if_neg (Bool.eq_false_iff.1 hb4)] at h | rw [if_pos hb] at h | rw [if_neg hb] at h | (simp only [hb, hT, reduceIte] at h) | skip
  refine AWp.region ?_
  refine L.Y Y.mv ?_
  refine L.Y Y.mv ?_
  obtain ⟨⟨t252, t253, t256, t257⟩, hc5, h⟩ := Option.bind_eq_some_iff.1 h
  dsimp only at h
  refine L.C (C.callE (l := false) [0] Tryd.func125 (spec_l1Cur_order.ac _ _ _ _ _ _ _ _ _ hc5) (H.c .nil) ?_)
  refine L.S (S.stb Y30) ?_
  refine AList.nil ?_
  refine AWp.seq ?_
  refine AWp.seq ?_
  refine W.kp [0, 2, 3, 4, 5, 6, 17] ?_
  refine AWp.region ?_
  refine L.S (S.ldN Tryd.underlying30 Y30) ?_
  rcases k with _ | k
  ·
   exact absurd h (by simp [spec_l1Cur_chosen.j0])
  simp only [spec_l1Cur_chosen.j0] at h
  obtain ⟨t258, hc6, h⟩ := Option.bind_eq_some_iff.1 h
  refine L.C (C.callE (l := true) [] Tryd.func84 (spec_orRelation.ac _ _ _ _ hc6) .nil ?_)
  refine L.Y Y.mv ?_
  refine L.Gc (fun hb => ?_) (fun hb => ?_)
  ·
   have hb7 := hb
   try simp only [hS, hE, ne_eq] at hb
   first | rw [if_pos hb7] at h | rw [if_neg (Bool.eq_false_iff.1 hb7)] at h | rw [if_pos hb] at h | rw [if_neg hb] at h | (simp only [hb, hT, reduceIte] at h) | skip
   refine L.Gs hb7 (S.ldN Tryd.underlying30 Y30) ?_
   obtain ⟨t259, hc8, h⟩ := Option.bind_eq_some_iff.1 h
   refine L.GC hb7 (C.callE (l := true) [] Tryd.func87 (spec_cfAcyclic.ac _ _ _ _ hc8) .nil ?_)
   refine L.Y (Y.pk (c := true) hb7) ?_
   refine L.Y Y.mv ?_
   refine L.Gc (fun hb => ?_) (fun hb => ?_)
   ·
    have hb9 := hb
    try simp only [hS, hE, ne_eq] at hb
    first | rw [if_pos hb9] at h | rw [if_neg (Bool.eq_false_iff.1 hb9)] at h | rw [if_pos hb] at h | rw [if_neg hb] at h | (simp only [hb, hT, reduceIte] at h) | skip
    refine L.Gy hb9 Y.mv ?_
    obtain ⟨⟨t260, t261, t262⟩, hc10, h⟩ := Option.bind_eq_some_iff.1 h
    dsimp only at h
    refine L.GC hb9 (C.callE (l := false) [0] Tryd.func76 (spec_l1Cur_one.ac _ _ _ _ _ _ _ hc10) (H.c .nil) ?_)
    refine L.Y (Y.pk (c := true) hb9) ?_
    refine AList.nil ?_
    rcases k with _ | k
    ·
     exact absurd h (by simp [spec_l1Cur_chosen.j1])
    simp only [spec_l1Cur_chosen.j1] at h
    refine W.cond (fun hb => ?_) (fun hb => ?_)
    ·
     have hb11 := hb
     try simp only [hS, hE, ne_eq] at hb
     first | rw [if_pos hb11] at h | rw [if_neg (Bool.eq_false_iff.1 hb11)] at h | rw [if_pos hb] at h | rw [if_neg hb] at h | (simp only [hb, hT, reduceIte] at h) | skip
     refine AWp.seq ?_
     refine W.kp [0, 2, 3, 4, 5, 6, 17, 30] ?_
     refine AWp.region ?_
     refine L.Y (Y.fa (off := 0) Tryd.underlying30 Y3) ?_
     refine L.S (S.ld Tryd.underlying3) ?_
     refine L.Y Y.asg ?_
     refine AList.nil ?_
     refine AWp.region ?_
     refine L.S (S.ldN Tryd.underlying30 Y30) ?_
     obtain ⟨t263, hc12, h⟩ := Option.bind_eq_some_iff.1 h
     refine L.C (C.callE (l := true) [] Tryd.func93 (spec_cfTable.ac _ _ _ _ hc12) .nil ?_)
     refine L.Y Y.asg ?_
     refine AList.nil ?_
     refine AWp.seq ?_
     refine AWp.seq ?_
     refine W.kp [0, 2, 3, 4, 5, 6, 17, 30] ?_
     refine AWp.region ?_
     refine L.Y Y.mv ?_
     rcases k with _ | k
     ·
      exact absurd h (by simp [spec_l1Cur_chosen.j3])
     simp only [spec_l1Cur_chosen.j3] at h
     obtain ⟨⟨t275, t276, t277⟩, hc13, h⟩ := Option.bind_eq_some_iff.1 h
     dsimp only at h
     refine L.C (C.callE (l := false) [0] Tryd.func80 (spec_l1Cur_pick.ac _ _ _ _ _ _ _ hc13) (H.c .nil) ?_)
     refine AList.nil ?_
     refine AWp.block ?_
     refine AWp.seq ?_
     refine AWp.region ?_
     refine L.Y Y.bin ?_
     refine L.Y Y.asg ?_
     refine AList.nil ?_
     refine W.cond (fun hb => ?_) (fun hb => ?_)
     ·
      have hb14 := hb
      try simp only [hS, hE, ne_eq] at hb
      first | rw [if_pos hb14] at h | rw [if_neg (Bool.eq_false_iff.1 hb14)] at h | rw [if_pos hb] at h | rw [if_neg hb] at h | (simp only [hb, hT, reduceIte] at h) | skip
      refine AWp.region ?_
      refine L.Y Y.mv ?_
      refine L.Y Y.mv ?_
      refine L.Y Y.mv ?_
      refine L.Y (Y.ln Tryd.underlying22) ?_
      obtain ⟨⟨t278, t279, t280⟩, hc15, h⟩ := Option.bind_eq_some_iff.1 h
      dsimp only at h
      repeat (first | (rw [iN] at h; obtain ⟨_, h⟩ := h) | (rw [iP] at h; obtain ⟨_, h⟩ := h) | (simp only [bS] at h))
      refine L.C (C.callE (l := false) [0] Tryd.func80 (spec_l1Cur_pick.ac _ _ _ _ _ _ _ hc15) (H.c .nil) ?_)
      refine L.Y Y.mv ?_
      refine L.M (M.bs Tryd.underlying22 Y3) ?_
      obtain ⟨⟨t284, t285, t286⟩, hc16, h⟩ := Option.bind_eq_some_iff.1 h
      dsimp only at h
      repeat (first | (rw [iN] at h; obtain ⟨_, h⟩ := h) | (rw [iP] at h; obtain ⟨_, h⟩ := h) | (simp only [bS] at h))
      refine L.C ?_
      refine C.frz 6 ?_
      refine C.callE (l := false) [0] Tryd.func81 (spec_l1Cur_among.ac _ _ _ _ _ _ _ hc16) (H.c .nil) ?_
      refine L.Y (Y.ixo Tryd.underlying22 Y3) ?_
      refine L.S (S.sts Y3) ?_
      refine AList.nil ?_
      refine AWp.seq ?_
      refine W.kp [0, 2, 3, 4, 5, 6, 17, 30, 55, 56] ?_
      refine AWp.region ?_
      refine L.Y Y.mv ?_
      refine L.Y Y.mv ?_
      refine L.Y Y.asg ?_
      refine L.Y Y.asg ?_
      refine AList.nil ?_
      simp only [Option.some.injEq, Prod.mk.injEq] at h
      obtain ⟨rfl, rfl, rfl, rfl⟩ := h
      refine AWp.ret ?_
      exact ⟨.inr rfl, [(2, _), (3, _)], _, ⟨rfl, rfl⟩, IsPart.at [] [0, 5] base1 (H.c (H.c .nil)) (E.c (E.c .nil))⟩
     ·
      have hb14 := hb
      try simp only [hS, hE, ne_eq] at hb
      first | rw [if_pos hb14] at h | rw [if_neg (Bool.eq_false_iff.1 hb14)] at h | rw [if_pos hb] at h | rw [if_neg hb] at h | (simp only [hb, hT, reduceIte] at h) | skip
      refine AWp.seq ?_
      refine AWp.region ?_
      refine L.Y Y.bin ?_
      refine L.Y Y.asg ?_
      refine AList.nil ?_
      refine W.cond (fun hb => ?_) (fun hb => ?_)
      ·
       have hb17 := hb
       try simp only [hS, hE, ne_eq] at hb
       first | rw [if_pos hb17] at h | rw [if_neg (Bool.eq_false_iff.1 hb17)] at h | rw [if_pos hb] at h | rw [if_neg hb] at h | (simp only [hb, hT, reduceIte] at h) | skip
       repeat (first | (rw [iN] at h; obtain ⟨_, h⟩ := h) | (rw [iP] at h; obtain ⟨_, h⟩ := h) | (simp only [bS] at h))
       refine AWp.region ?_
       refine L.Y Y.mv ?_
       refine L.Y Y.mv ?_
       refine L.Y Y.bin ?_
       refine L.M (M.bs Tryd.underlying22 Y3) ?_
       obtain ⟨⟨t291, t292, t293⟩, hc18, h⟩ := Option.bind_eq_some_iff.1 h
       dsimp only at h
       refine L.C ?_
       refine C.frz 6 ?_
       refine C.callE (l := false) [0] Tryd.func81 (spec_l1Cur_among.ac _ _ _ _ _ _ _ hc18) (H.c .nil) ?_
       refine L.Y Y.asg ?_
       refine AList.nil ?_
       refine AWp.seq ?_
       refine W.kp [0, 2, 3, 4, 5, 6, 17, 30, 55, 56, 67] ?_
       refine AWp.region ?_
       refine L.Y Y.mv ?_
       refine L.Y Y.mv ?_
       refine L.Y Y.asg ?_
       refine L.Y Y.asg ?_
       refine AList.nil ?_
       simp only [Option.some.injEq, Prod.mk.injEq] at h
       obtain ⟨rfl, rfl, rfl, rfl⟩ := h
       refine AWp.ret ?_
       exact ⟨.inr rfl, [(2, _), (3, _)], _, ⟨rfl, rfl⟩, IsPart.at [] [0, 5] base1 (H.c (H.c .nil)) (E.c (E.c .nil))⟩
      ·
       have hb17 := hb
       try simp only [hS, hE, ne_eq] at hb
       first | rw [if_pos hb17] at h | rw [if_neg (Bool.eq_false_iff.1 hb17)] at h | rw [if_pos hb] at h | rw [if_neg hb] at h | (simp only [hb, hT, reduceIte] at h) | skip
       refine AWp.seq ?_
       refine AWp.seq ?_
       refine AWp.region ?_
       refine L.Y Y.bin ?_
       refine L.Y Y.asg ?_
       refine AList.nil ?_
       refine W.cond (fun hb => ?_) (fun hb => ?_)
       ·
        have hb19 := hb
        try simp only [hS, hE, ne_eq] at hb
        first | rw [if_pos hb19] at h | rw [if_neg (Bool.eq_false_iff.1 hb19)] at h | rw [if_pos hb] at h | rw [if_neg hb] at h | (simp only [hb, hT, reduceIte] at h) | skip
        refine AWp.skip ?_
        refine W.cond (fun hb => ?_) (fun hb => ?_)
        rotate_left
        ·
         exact DD hb
        have hb20 := hb
        refine AWp.seq ?_
        refine W.kp [0, 2, 3, 4, 5, 6, 17, 30, 55, 56, 67, 74] ?_
        refine AWp.region ?_
        refine L.Y Y.mv ?_
        refine L.Y Y.mv ?_
        refine L.Y (Y.ln Tryd.underlying22) ?_
        obtain ⟨⟨t294, t295, t296⟩, hc21, h⟩ := Option.bind_eq_some_iff.1 h
        dsimp only at h
        repeat (first | (rw [iN] at h; obtain ⟨_, h⟩ := h) | (rw [iP] at h; obtain ⟨_, h⟩ := h) | (simp only [bS] at h))
        refine L.C (C.callE (l := false) [0] Tryd.func80 (spec_l1Cur_pick.ac _ _ _ _ _ _ _ hc21) (H.c .nil) ?_)
        refine L.Y Y.asg ?_
        refine AList.nil ?_
        refine W.kp [0, 2, 3, 4, 5, 6, 9, 17, 30, 55, 56, 67, 74] ?_
        refine AWp.region ?_
        refine L.Y Y.mv ?_
        refine L.Y Y.mv ?_
        refine L.Y Y.mv ?_
        refine L.Y (Y.ixo Tryd.underlying22 Y3) ?_
        refine L.S (S.sts Y3) ?_
        refine AList.nil ?_
        refine AWp.seq ?_
        refine W.kp [0, 2, 3, 4, 5, 6, 9, 17, 30, 55, 56, 67, 74] ?_
        refine AWp.region ?_
        refine L.Y Y.mv ?_
        refine L.Y Y.mv ?_
        refine L.Y Y.asg ?_
        refine L.Y Y.asg ?_
        refine AList.nil ?_
        simp only [Option.some.injEq, Prod.mk.injEq] at h
        obtain ⟨rfl, rfl, rfl, rfl⟩ := h
        refine AWp.ret ?_
        exact ⟨.inr rfl, [(2, _), (3, _)], _, ⟨rfl, rfl⟩, IsPart.at [] [0, 5] base1 (H.c (H.c .nil)) (E.c (E.c .nil))⟩
       ·
        have hb19 := hb
        try simp only [hS, hE, ne_eq] at hb
        first | rw [if_pos hb19] at h | rw [if_neg (Bool.eq_false_iff.1 hb19)] at h | rw [if_pos hb] at h | rw [if_neg hb] at h | (simp only [hb, hT, reduceIte] at h) | skip
        refine W.kp [0, 2, 3, 4, 5, 6, 17, 30, 55, 56, 67, 74] ?_
        refine AWp.region ?_
        refine L.Y Y.bin ?_
        refine L.Y Y.asg ?_
        refine AList.nil ?_
        refine W.cond (fun hb => ?_) (fun hb => ?_)
        ·
         have hb22 := hb
         try simp only [hS, hE, ne_eq] at hb
         first | rw [if_pos hb22] at h | rw [if_neg (Bool.eq_false_iff.1 hb22)] at h | rw [if_pos hb] at h | rw [if_neg hb] at h | (simp only [hb, hT, reduceIte] at h) | skip
         refine AWp.seq ?_
         refine AWp.region ?_
         refine L.Y Y.mv ?_
         refine L.Y Y.mv ?_
         refine L.Y (Y.ln Tryd.underlying22) ?_
         obtain ⟨⟨t298, t299, t300⟩, hc23, h⟩ := Option.bind_eq_some_iff.1 h
         dsimp only at h
         repeat (first | (rw [iN] at h; obtain ⟨_, h⟩ := h) | (rw [iP] at h; obtain ⟨_, h⟩ := h) | (simp only [bS] at h))
         refine L.C (C.callE (l := false) [0] Tryd.func80 (spec_l1Cur_pick.ac _ _ _ _ _ _ _ hc23) (H.c .nil) ?_)
         refine L.Y Y.asg ?_
         refine AList.nil ?_
         refine W.kp [0, 2, 3, 4, 5, 6, 9, 17, 30, 55, 56, 67, 74] ?_
         refine AWp.region ?_
         refine L.Y Y.mv ?_
         refine L.Y Y.mv ?_
         refine L.Y Y.mv ?_
         refine L.Y (Y.ixo Tryd.underlying22 Y3) ?_
         refine L.S (S.sts Y3) ?_
         refine AList.nil ?_
         refine AWp.seq ?_
         refine W.kp [0, 2, 3, 4, 5, 6, 9, 17, 30, 55, 56, 67, 74] ?_
         refine AWp.region ?_
         refine L.Y Y.mv ?_
         refine L.Y Y.mv ?_
         refine L.Y Y.asg ?_
         refine L.Y Y.asg ?_
         refine AList.nil ?_
         simp only [Option.some.injEq, Prod.mk.injEq] at h
         obtain ⟨rfl, rfl, rfl, rfl⟩ := h
         refine AWp.ret ?_
         exact ⟨.inr rfl, [(2, _), (3, _)], _, ⟨rfl, rfl⟩, IsPart.at [] [0, 5] base1 (H.c (H.c .nil)) (E.c (E.c .nil))⟩
        ·
         have hb22 := hb
         try simp only [hS, hE, ne_eq] at hb
         first | rw [if_pos hb22] at h | rw [if_neg (Bool.eq_false_iff.1 hb22)] at h | rw [if_pos hb] at h | rw [if_neg hb] at h | (simp only [hb, hT, reduceIte] at h) | skip
         refine AWp.skip ?_
         refine AWp.seq ?_
         refine AWp.region ?_
         refine L.Y Y.mv ?_
         refine L.Y Y.mv ?_
         refine L.Y Y.asg ?_
         refine L.Y Y.asg ?_
         refine AList.nil ?_
         simp only [Option.some.injEq, Prod.mk.injEq] at h
         obtain ⟨rfl, rfl, rfl, rfl⟩ := h
         refine AWp.ret ?_
         exact ⟨.inr rfl, [(2, _), (3, _)], _, ⟨rfl, rfl⟩, IsPart.at [] [0, 5] base1 (H.c (H.c .nil)) (E.c (E.c .nil))⟩
    ·
     have hb11 := hb
     try simp only [hS, hE, ne_eq] at hb
     first | rw [if_pos hb11] at h | rw [if_neg (Bool.eq_false_iff.1 hb11)] at h | rw [if_pos hb] at h | rw [if_neg hb] at h | (simp only [hb, hT, reduceIte] at h) | skip
     refine AWp.seq ?_
     refine W.kp [0, 2, 3, 4, 5, 6, 17, 30] ?_
     refine AWp.region ?_
     refine L.Y Y.asg ?_
     refine AList.nil ?_
     refine AWp.block ?_
     refine AWp.loopI (fun kk e H => kk ≤ k ∧ ∃ (x4 : Int) (x5 : List Int) (x7 : Int) (x1001 : Int) (x1002 : Int) (x249000 : Int) (x249001 : List Int), e = [(0, .ptr 0 0), (4, .lit (.int .i64 x4)), (5, .own 1 x5.length), (6, .ptr 2 0), (7, .lit (.int .i64 x7))] ∧ H = [.bx 82 [.row 1 s0_0.length false (ints .u8 s0_0), .lit (.int .i64 x1001), .lit (.int .u64 x1002)], .sl 3 1 x5.length false (ints .i64 x5), .bx 30 [.lit (.int .i64 x249000), .own 3 x249001.length], .sl 3 1 x249001.length false (ints .i64 x249001)] ∧ spec_l1Cur_chosen.l0 kk x4 x5 x7 s0_0 x1001 x1002 = some (r1, r2, r3, r4)) (k := k)
      ⟨_, _, ⟨Nat.le_refl _, _, _, _, _, _, _, _, rfl, rfl, h⟩, IsPart.at [(3, 1)] [0, 5, 3, 4] base1 (H.c (H.c (H.c (H.c .nil)))) (E.c (E.c (E.c (E.c (E.c .nil)))))⟩ ?_
     clear h
     rintro k24 e H ⟨hk25, x4, x5, x7, x1001, x1002, x249000, x249001, rfl, rfl, h⟩
     cases k24 with
     | zero => exact absurd h (by simp [spec_l1Cur_chosen.l0])
     | succ k24 =>
     simp only [spec_l1Cur_chosen.l0] at h
     repeat (first | (rw [iN] at h; obtain ⟨_, h⟩ := h) | (rw [iP] at h; obtain ⟨_, h⟩ := h) | (simp only [bS] at h))
     refine AWp.seq ?_
     refine AWp.seq ?_
     refine AWp.region ?_
     refine L.Y Y.mv ?_
     refine L.Y Y.mv ?_
     refine L.Y Y.bin ?_
     refine L.Y Y.bin ?_
     refine AList.nil ?_
     refine W.cond (fun hb => ?_) (fun hb => ?_)
     ·
      have hb26 := hb
      try simp only [hS, hE, ne_eq] at hb
      first | rw [if_pos hb26] at h | rw [if_neg (Bool.eq_false_iff.1 hb26)] at h | rw [if_pos hb] at h | rw [if_neg hb] at h | (simp only [hb, hT, reduceIte] at h) | skip
      refine AWp.skip ?_
      refine AWp.seq ?_
      refine AWp.block ?_
      refine AWp.seq ?_
      refine AWp.region ?_
      refine L.Y Y.mv ?_
      refine L.Y Y.mv ?_
      refine L.Y Y.mv ?_
      refine L.Y Y.bin ?_
      obtain ⟨⟨t266, t267, t268⟩, hc27, h⟩ := Option.bind_eq_some_iff.1 h
      dsimp only at h
      refine L.C (C.callE (l := false) [0] Tryd.func80 (spec_l1Cur_pick.ac _ _ _ _ _ _ _ hc27) (H.c .nil) ?_)
      refine L.Y Y.bin ?_
      refine L.Y Y.asg ?_
      refine AList.nil ?_
      refine AWp.seq ?_
      refine AWp.seq ?_
      refine W.kp [0, 4, 5, 6, 7, 8, 38] ?_
      refine AWp.region ?_
      refine L.Y Y.mv ?_
      refine L.Y Y.bin ?_
      refine AList.nil ?_
      refine W.cond (fun hb => ?_) (fun hb => ?_)
      ·
       have hb28 := hb
       try simp only [hS, hE, ne_eq] at hb
       first | rw [if_pos hb28] at h | rw [if_neg (Bool.eq_false_iff.1 hb28)] at h | rw [if_pos hb] at h | rw [if_neg hb] at h | (simp only [hb, hT, reduceIte] at h) | skip
       repeat (first | (rw [iN] at h; obtain ⟨_, h⟩ := h) | (rw [iP] at h; obtain ⟨_, h⟩ := h) | (simp only [bS] at h))
       refine AWp.region ?_
       refine L.Y Y.mv ?_
       refine L.Y Y.asg ?_
       refine AList.nil ?_
       refine AWp.region ?_
       refine L.Y Y.mv ?_
       refine L.Y Y.mv ?_
       refine L.M (M.bs Tryd.underlying22 Y3) ?_
       refine L.S (S.ap (nn' := false) Tryd.underlying22 Y3) ?_
       refine L.Y Y.asg ?_
       refine AList.nil ?_
       refine W.kp [0, 4, 5, 6, 7, 8, 38, 48] ?_
       refine AWp.region ?_
       refine L.Y Y.mv ?_
       refine L.Y Y.bin ?_
       refine L.Y Y.asg ?_
       refine AList.nil ?_
       exact ⟨k24, by omega, _, _, ⟨by omega, _, _, _, _, _, _, _, rfl, rfl, h⟩, IsPart.at [] [0, 1, 2, 3] base1 (H.c (H.c (H.c (H.c .nil)))) (E.c (E.c (E.c (E.c (E.c .nil)))))⟩
      ·
       have hb28 := hb
       try simp only [hS, hE, ne_eq] at hb
       first | rw [if_pos hb28] at h | rw [if_neg (Bool.eq_false_iff.1 hb28)] at h | rw [if_pos hb] at h | rw [if_neg hb] at h | (simp only [hb, hT, reduceIte] at h) | skip
       repeat (first | (rw [iN] at h; obtain ⟨_, h⟩ := h) | (rw [iP] at h; obtain ⟨_, h⟩ := h) | (simp only [bS] at h))
       refine AWp.skip ?_
       refine AWp.region ?_
       refine L.Y Y.mv ?_
       refine L.Y Y.mv ?_
       refine L.M (M.bs Tryd.underlying22 Y3) ?_
       refine L.S (S.ap (nn' := false) Tryd.underlying22 Y3) ?_
       refine L.Y Y.asg ?_
       refine AList.nil ?_
       refine W.kp [0, 4, 5, 6, 7, 8, 38, 48] ?_
       refine AWp.region ?_
       refine L.Y Y.mv ?_
       refine L.Y Y.bin ?_
       refine L.Y Y.asg ?_
       refine AList.nil ?_
       exact ⟨k24, by omega, _, _, ⟨by omega, _, _, _, _, _, _, _, rfl, rfl, h⟩, IsPart.at [] [0, 1, 2, 3] base1 (H.c (H.c (H.c (H.c .nil)))) (E.c (E.c (E.c (E.c (E.c .nil)))))⟩
     ·
      have hb26 := hb
      try simp only [hS, hE, ne_eq] at hb
      first | rw [if_pos hb26] at h | rw [if_neg (Bool.eq_false_iff.1 hb26)] at h | rw [if_pos hb] at h | rw [if_neg hb] at h | (simp only [hb, hT, reduceIte] at h) | skip
      refine AWp.exit ?_
      refine AWp.seq ?_
      refine AWp.seq ?_
      refine AWp.region ?_
      refine L.Y Y.mv ?_
      rcases k24 with _ | k24
      ·
       exact absurd h (by simp [spec_l1Cur_chosen.j3])
      simp only [spec_l1Cur_chosen.j3] at h
      obtain ⟨⟨t275, t276, t277⟩, hc29, h⟩ := Option.bind_eq_some_iff.1 h
      dsimp only at h
      refine L.C (C.callE (l := false) [0] Tryd.func80 (spec_l1Cur_pick.ac _ _ _ _ _ _ _ hc29) (H.c .nil) ?_)
      refine AList.nil ?_
      refine AWp.block ?_
      refine AWp.seq ?_
      refine W.kp [0, 4, 5, 6, 7, 38, 55] ?_
      refine AWp.region ?_
      refine L.Y Y.bin ?_
      refine L.Y Y.asg ?_
      refine AList.nil ?_
      refine W.cond (fun hb => ?_) (fun hb => ?_)
      ·
       have hb30 := hb
       try simp only [hS, hE, ne_eq] at hb
       first | rw [if_pos hb30] at h | rw [if_neg (Bool.eq_false_iff.1 hb30)] at h | rw [if_pos hb] at h | rw [if_neg hb] at h | (simp only [hb, hT, reduceIte] at h) | skip
       refine AWp.region ?_
       refine L.Y Y.mv ?_
       refine L.Y Y.mv ?_
       refine L.Y Y.mv ?_
       refine L.Y (Y.ln Tryd.underlying22) ?_
       obtain ⟨⟨t278, t279, t280⟩, hc31, h⟩ := Option.bind_eq_some_iff.1 h
       dsimp only at h
       repeat (first | (rw [iN] at h; obtain ⟨_, h⟩ := h) | (rw [iP] at h; obtain ⟨_, h⟩ := h) | (simp only [bS] at h))
       refine L.C (C.callE (l := false) [0] Tryd.func80 (spec_l1Cur_pick.ac _ _ _ _ _ _ _ hc31) (H.c .nil) ?_)
       refine L.Y Y.mv ?_
       refine L.M (M.bs Tryd.underlying22 Y3) ?_
       obtain ⟨⟨t284, t285, t286⟩, hc32, h⟩ := Option.bind_eq_some_iff.1 h
       dsimp only at h
       repeat (first | (rw [iN] at h; obtain ⟨_, h⟩ := h) | (rw [iP] at h; obtain ⟨_, h⟩ := h) | (simp only [bS] at h))
       refine L.C ?_
       refine C.frz 4 ?_
       refine C.callE (l := false) [0] Tryd.func81 (spec_l1Cur_among.ac _ _ _ _ _ _ _ hc32) (H.c .nil) ?_
       refine L.Y (Y.ixo Tryd.underlying22 Y3) ?_
       refine L.S (S.sts Y3) ?_
       refine AList.nil ?_
       refine AWp.seq ?_
       refine W.kp [0, 4, 5, 6, 7, 38, 55, 56] ?_
       refine AWp.region ?_
       refine L.Y Y.mv ?_
       refine L.Y Y.mv ?_
       refine L.Y Y.asg ?_
       refine L.Y Y.asg ?_
       refine AList.nil ?_
       simp only [Option.some.injEq, Prod.mk.injEq] at h
       obtain ⟨rfl, rfl, rfl, rfl⟩ := h
       refine AWp.ret ?_
       exact ⟨.inr rfl, [(2, _), (3, _)], _, ⟨rfl, rfl⟩, IsPart.at [] [0, 1] base1 (H.c (H.c .nil)) (E.c (E.c .nil))⟩
      ·
       have hb30 := hb
       try simp only [hS, hE, ne_eq] at hb
       first | rw [if_pos hb30] at h | rw [if_neg (Bool.eq_false_iff.1 hb30)] at h | rw [if_pos hb] at h | rw [if_neg hb] at h | (simp only [hb, hT, reduceIte] at h) | skip
       refine AWp.seq ?_
       refine AWp.region ?_
       refine L.Y Y.bin ?_
       refine L.Y Y.asg ?_
       refine AList.nil ?_
       refine W.cond (fun hb => ?_) (fun hb => ?_)
       ·
        have hb33 := hb
        try simp only [hS, hE, ne_eq] at hb
        first | rw [if_pos hb33] at h | rw [if_neg (Bool.eq_false_iff.1 hb33)] at h | rw [if_pos hb] at h | rw [if_neg hb] at h | (simp only [hb, hT, reduceIte] at h) | skip
        repeat (first | (rw [iN] at h; obtain ⟨_, h⟩ := h) | (rw [iP] at h; obtain ⟨_, h⟩ := h) | (simp only [bS] at h))
        refine AWp.region ?_
        refine L.Y Y.mv ?_
        refine L.Y Y.mv ?_
        refine L.Y Y.bin ?_
        refine L.M (M.bs Tryd.underlying22 Y3) ?_
        obtain ⟨⟨t291, t292, t293⟩, hc34, h⟩ := Option.bind_eq_some_iff.1 h
        dsimp only at h
        refine L.C ?_
        refine C.frz 4 ?_
        refine C.callE (l := false) [0] Tryd.func81 (spec_l1Cur_among.ac _ _ _ _ _ _ _ hc34) (H.c .nil) ?_
        refine L.Y Y.asg ?_
        refine AList.nil ?_
        refine AWp.seq ?_
        refine W.kp [0, 4, 5, 6, 7, 38, 55, 56, 67] ?_
        refine AWp.region ?_
        refine L.Y Y.mv ?_
        refine L.Y Y.mv ?_
        refine L.Y Y.asg ?_
        refine L.Y Y.asg ?_
        refine AList.nil ?_
        simp only [Option.some.injEq, Prod.mk.injEq] at h
        obtain ⟨rfl, rfl, rfl, rfl⟩ := h
        refine AWp.ret ?_
        exact ⟨.inr rfl, [(2, _), (3, _)], _, ⟨rfl, rfl⟩, IsPart.at [] [0, 1] base1 (H.c (H.c .nil)) (E.c (E.c .nil))⟩
       ·
        have hb33 := hb
        try simp only [hS, hE, ne_eq] at hb
        first | rw [if_pos hb33] at h | rw [if_neg (Bool.eq_false_iff.1 hb33)] at h | rw [if_pos hb] at h | rw [if_neg hb] at h | (simp only [hb, hT, reduceIte] at h) | skip
        refine AWp.seq ?_
        refine AWp.seq ?_
        refine AWp.region ?_
        refine L.Y Y.bin ?_
        refine L.Y Y.asg ?_
        refine AList.nil ?_
        refine W.cond (fun hb => ?_) (fun hb => ?_)
        ·
         have hb35 := hb
         try simp only [hS, hE, ne_eq] at hb
         first | rw [if_pos hb35] at h | rw [if_neg (Bool.eq_false_iff.1 hb35)] at h | rw [if_pos hb] at h | rw [if_neg hb] at h | (simp only [hb, hT, reduceIte] at h) | skip
         refine AWp.skip ?_
         refine W.cond (fun hb => ?_) (fun hb => ?_)
         rotate_left
         ·
          exact DD hb
         have hb36 := hb
         refine AWp.seq ?_
         refine AWp.region ?_
         refine L.Y Y.mv ?_
         refine L.Y Y.mv ?_
         refine L.Y (Y.ln Tryd.underlying22) ?_
         obtain ⟨⟨t294, t295, t296⟩, hc37, h⟩ := Option.bind_eq_some_iff.1 h
         dsimp only at h
         repeat (first | (rw [iN] at h; obtain ⟨_, h⟩ := h) | (rw [iP] at h; obtain ⟨_, h⟩ := h) | (simp only [bS] at h))
         refine L.C (C.callE (l := false) [0] Tryd.func80 (spec_l1Cur_pick.ac _ _ _ _ _ _ _ hc37) (H.c .nil) ?_)
         refine L.Y Y.asg ?_
         refine AList.nil ?_
         refine W.kp [0, 4, 5, 6, 7, 9, 38, 55, 56, 67, 74] ?_
         refine AWp.region ?_
         refine L.Y Y.mv ?_
         refine L.Y Y.mv ?_
         refine L.Y Y.mv ?_
         refine L.Y (Y.ixo Tryd.underlying22 Y3) ?_
         refine L.S (S.sts Y3) ?_
         refine AList.nil ?_
         refine AWp.seq ?_
         refine W.kp [0, 4, 5, 6, 7, 9, 38, 55, 56, 67, 74] ?_
         refine AWp.region ?_
         refine L.Y Y.mv ?_
         refine L.Y Y.mv ?_
         refine L.Y Y.asg ?_
         refine L.Y Y.asg ?_
         refine AList.nil ?_
         simp only [Option.some.injEq, Prod.mk.injEq] at h
         obtain ⟨rfl, rfl, rfl, rfl⟩ := h
         refine AWp.ret ?_
         exact ⟨.inr rfl, [(2, _), (3, _)], _, ⟨rfl, rfl⟩, IsPart.at [] [0, 1] base1 (H.c (H.c .nil)) (E.c (E.c .nil))⟩
        ·
         have hb35 := hb
         try simp only [hS, hE, ne_eq] at hb
         first | rw [if_pos hb35] at h | rw [if_neg (Bool.eq_false_iff.1 hb35)] at h | rw [if_pos hb] at h | rw [if_neg hb] at h | (simp only [hb, hT, reduceIte] at h) | skip
         refine AWp.region ?_
         refine L.Y Y.bin ?_
         refine L.Y Y.asg ?_
         refine AList.nil ?_
         refine W.cond (fun hb => ?_) (fun hb => ?_)
         ·
          have hb38 := hb
          try simp only [hS, hE, ne_eq] at hb
          first | rw [if_pos hb38] at h | rw [if_neg (Bool.eq_false_iff.1 hb38)] at h | rw [if_pos hb] at h | rw [if_neg hb] at h | (simp only [hb, hT, reduceIte] at h) | skip
          refine AWp.seq ?_
          refine W.kp [0, 4, 5, 6, 7, 38, 55, 56, 67, 74] ?_
          refine AWp.region ?_
          refine L.Y Y.mv ?_
          refine L.Y Y.mv ?_
          refine L.Y (Y.ln Tryd.underlying22) ?_
          obtain ⟨⟨t298, t299, t300⟩, hc39, h⟩ := Option.bind_eq_some_iff.1 h
          dsimp only at h
          repeat (first | (rw [iN] at h; obtain ⟨_, h⟩ := h) | (rw [iP] at h; obtain ⟨_, h⟩ := h) | (simp only [bS] at h))
          refine L.C (C.callE (l := false) [0] Tryd.func80 (spec_l1Cur_pick.ac _ _ _ _ _ _ _ hc39) (H.c .nil) ?_)
          refine L.Y Y.asg ?_
          refine AList.nil ?_
          refine W.kp [0, 4, 5, 6, 7, 9, 38, 55, 56, 67, 74] ?_
          refine AWp.region ?_
          refine L.Y Y.mv ?_
          refine L.Y Y.mv ?_
          refine L.Y Y.mv ?_
          refine L.Y (Y.ixo Tryd.underlying22 Y3) ?_
          refine L.S (S.sts Y3) ?_
          refine AList.nil ?_
          refine AWp.seq ?_
          refine W.kp [0, 4, 5, 6, 7, 9, 38, 55, 56, 67, 74] ?_
          refine AWp.region ?_
          refine L.Y Y.mv ?_
          refine L.Y Y.mv ?_
          refine L.Y Y.asg ?_
          refine L.Y Y.asg ?_
          refine AList.nil ?_
          simp only [Option.some.injEq, Prod.mk.injEq] at h
          obtain ⟨rfl, rfl, rfl, rfl⟩ := h
          refine AWp.ret ?_
          exact ⟨.inr rfl, [(2, _), (3, _)], _, ⟨rfl, rfl⟩, IsPart.at [] [0, 1] base1 (H.c (H.c .nil)) (E.c (E.c .nil))⟩
         ·
          have hb38 := hb
          try simp only [hS, hE, ne_eq] at hb
          first | rw [if_pos hb38] at h | rw [if_neg (Bool.eq_false_iff.1 hb38)] at h | rw [if_pos hb] at h | rw [if_neg hb] at h | (simp only [hb, hT, reduceIte] at h) | skip
          refine AWp.skip ?_
          refine AWp.seq ?_
          refine W.kp [0, 4, 5, 6, 7, 38, 55, 56, 67, 74] ?_
          refine AWp.region ?_
          refine L.Y Y.mv ?_
          refine L.Y Y.mv ?_
          refine L.Y Y.asg ?_
          refine L.Y Y.asg ?_
          refine AList.nil ?_
          simp only [Option.some.injEq, Prod.mk.injEq] at h
          obtain ⟨rfl, rfl, rfl, rfl⟩ := h
          refine AWp.ret ?_
          exact ⟨.inr rfl, [(2, _), (3, _)], _, ⟨rfl, rfl⟩, IsPart.at [] [0, 1] base1 (H.c (H.c .nil)) (E.c (E.c .nil))⟩
   ·
    have hb9 := hb
    try simp only [hS, hE, ne_eq] at hb
    first | rw [if_pos hb9] at h | rw [if_neg (Bool.eq_false_iff.1 hb9)] at h | rw [if_pos hb] at h | rw [if_neg hb] at h | (simp only [hb, hT, reduceIte] at h) | skip
    refine L.Gn hb9 ?_
    refine L.Gn hb9 ?_
    refine L.Y (Y.pk (c := false) hb9) ?_
    refine AList.nil ?_
    rcases k with _ | k
    ·
     exact absurd h (by simp [spec_l1Cur_chosen.j1])
    simp only [spec_l1Cur_chosen.j1] at h
    refine W.cond (fun hb => ?_) (fun hb => ?_)
    ·
     exact DD hb
    have hb40 := hb
    try (first | rw [if_pos hb40] at h | rw [if_neg (Bool.eq_false_iff.1 hb40)] at h | rw [if_pos hb] at h | rw [if_neg hb] at h | (simp only [hb, hT, reduceIte] at h) | skip)
    refine AWp.seq ?_
    refine W.kp [0, 2, 3, 4, 5, 6, 17, 30] ?_
    refine AWp.region ?_
    refine L.Y Y.asg ?_
    refine AList.nil ?_
    refine AWp.block ?_
    refine AWp.loopI (fun kk e H => kk ≤ k ∧ ∃ (x4 : Int) (x5 : List Int) (x7 : Int) (x1001 : Int) (x1002 : Int) (x249000 : Int) (x249001 : List Int), e = [(0, .ptr 0 0), (4, .lit (.int .i64 x4)), (5, .own 1 x5.length), (6, .ptr 2 0), (7, .lit (.int .i64 x7))] ∧ H = [.bx 82 [.row 1 s0_0.length false (ints .u8 s0_0), .lit (.int .i64 x1001), .lit (.int .u64 x1002)], .sl 3 1 x5.length false (ints .i64 x5), .bx 30 [.lit (.int .i64 x249000), .own 3 x249001.length], .sl 3 1 x249001.length false (ints .i64 x249001)] ∧ spec_l1Cur_chosen.l0 kk x4 x5 x7 s0_0 x1001 x1002 = some (r1, r2, r3, r4)) (k := k)
     ⟨_, _, ⟨Nat.le_refl _, _, _, _, _, _, _, _, rfl, rfl, h⟩, IsPart.at [(3, 1)] [0, 5, 3, 4] base1 (H.c (H.c (H.c (H.c .nil)))) (E.c (E.c (E.c (E.c (E.c .nil)))))⟩ ?_
    clear h
    rintro k41 e H ⟨hk42, x4, x5, x7, x1001, x1002, x249000, x249001, rfl, rfl, h⟩
    cases k41 with
    | zero => exact absurd h (by simp [spec_l1Cur_chosen.l0])
    | succ k41 =>
    simp only [spec_l1Cur_chosen.l0] at h
    repeat (first | (rw [iN] at h; obtain ⟨_, h⟩ := h) | (rw [iP] at h; obtain ⟨_, h⟩ := h) | (simp only [bS] at h))
    refine AWp.seq ?_
    refine AWp.seq ?_
    refine AWp.region ?_
    refine L.Y Y.mv ?_
    refine L.Y Y.mv ?_
    refine L.Y Y.bin ?_
    refine L.Y Y.bin ?_
    refine AList.nil ?_
    refine W.cond (fun hb => ?_) (fun hb => ?_)
    ·
     have hb43 := hb
     try simp only [hS, hE, ne_eq] at hb
     first | rw [if_pos hb43] at h | rw [if_neg (Bool.eq_false_iff.1 hb43)] at h | rw [if_pos hb] at h | rw [if_neg hb] at h | (simp only [hb, hT, reduceIte] at h) | skip
     refine AWp.skip ?_
     refine AWp.seq ?_
     refine AWp.block ?_
     refine AWp.seq ?_
     refine AWp.region ?_
     refine L.Y Y.mv ?_
     refine L.Y Y.mv ?_
     refine L.Y Y.mv ?_
     refine L.Y Y.bin ?_
     obtain ⟨⟨t266, t267, t268⟩, hc44, h⟩ := Option.bind_eq_some_iff.1 h
     dsimp only at h
     refine L.C (C.callE (l := false) [0] Tryd.func80 (spec_l1Cur_pick.ac _ _ _ _ _ _ _ hc44) (H.c .nil) ?_)
     refine L.Y Y.bin ?_
     refine L.Y Y.asg ?_
     refine AList.nil ?_
     refine AWp.seq ?_
     refine AWp.seq ?_
     refine W.kp [0, 4, 5, 6, 7, 8, 38] ?_
     refine AWp.region ?_
     refine L.Y Y.mv ?_
     refine L.Y Y.bin ?_
     refine AList.nil ?_
     refine W.cond (fun hb => ?_) (fun hb => ?_)
     ·
      have hb45 := hb
      try simp only [hS, hE, ne_eq] at hb
      first | rw [if_pos hb45] at h | rw [if_neg (Bool.eq_false_iff.1 hb45)] at h | rw [if_pos hb] at h | rw [if_neg hb] at h | (simp only [hb, hT, reduceIte] at h) | skip
      repeat (first | (rw [iN] at h; obtain ⟨_, h⟩ := h) | (rw [iP] at h; obtain ⟨_, h⟩ := h) | (simp only [bS] at h))
      refine AWp.region ?_
      refine L.Y Y.mv ?_
      refine L.Y Y.asg ?_
      refine AList.nil ?_
      refine AWp.region ?_
      refine L.Y Y.mv ?_
      refine L.Y Y.mv ?_
      refine L.M (M.bs Tryd.underlying22 Y3) ?_
      refine L.S (S.ap (nn' := false) Tryd.underlying22 Y3) ?_
      refine L.Y Y.asg ?_
      refine AList.nil ?_
      refine W.kp [0, 4, 5, 6, 7, 8, 38, 48] ?_
      refine AWp.region ?_
      refine L.Y Y.mv ?_
      refine L.Y Y.bin ?_
      refine L.Y Y.asg ?_
      refine AList.nil ?_
      exact ⟨k41, by omega, _, _, ⟨by omega, _, _, _, _, _, _, _, rfl, rfl, h⟩, IsPart.at [] [0, 1, 2, 3] base1 (H.c (H.c (H.c (H.c .nil)))) (E.c (E.c (E.c (E.c (E.c .nil)))))⟩
     ·
      have hb45 := hb
      try simp only [hS, hE, ne_eq] at hb
      first | rw [if_pos hb45] at h | rw [if_neg (Bool.eq_false_iff.1 hb45)] at h | rw [if_pos hb] at h | rw [if_neg hb] at h | (simp only [hb, hT, reduceIte] at h) | skip
      repeat (first | (rw [iN] at h; obtain ⟨_, h⟩ := h) | (rw [iP] at h; obtain ⟨_, h⟩ := h) | (simp only [bS] at h))
      refine AWp.skip ?_
      refine AWp.region ?_
      refine L.Y Y.mv ?_
      refine L.Y Y.mv ?_
      refine L.M (M.bs Tryd.underlying22 Y3) ?_
      refine L.S (S.ap (nn' := false) Tryd.underlying22 Y3) ?_
      refine L.Y Y.asg ?_
      refine AList.nil ?_
      refine W.kp [0, 4, 5, 6, 7, 8, 38, 48] ?_
      refine AWp.region ?_
      refine L.Y Y.mv ?_
      refine L.Y Y.bin ?_
      refine L.Y Y.asg ?_
      refine AList.nil ?_
      exact ⟨k41, by omega, _, _, ⟨by omega, _, _, _, _, _, _, _, rfl, rfl, h⟩, IsPart.at [] [0, 1, 2, 3] base1 (H.c (H.c (H.c (H.c .nil)))) (E.c (E.c (E.c (E.c (E.c .nil)))))⟩
    ·
     have hb43 := hb
     try simp only [hS, hE, ne_eq] at hb
     first | rw [if_pos hb43] at h | rw [if_neg (Bool.eq_false_iff.1 hb43)] at h | rw [if_pos hb] at h | rw [if_neg hb] at h | (simp only [hb, hT, reduceIte] at h) | skip
     refine AWp.exit ?_
     refine AWp.seq ?_
     refine AWp.seq ?_
     refine AWp.region ?_
     refine L.Y Y.mv ?_
     rcases k41 with _ | k41
     ·
      exact absurd h (by simp [spec_l1Cur_chosen.j3])
     simp only [spec_l1Cur_chosen.j3] at h
     obtain ⟨⟨t275, t276, t277⟩, hc46, h⟩ := Option.bind_eq_some_iff.1 h
     dsimp only at h
     refine L.C (C.callE (l := false) [0] Tryd.func80 (spec_l1Cur_pick.ac _ _ _ _ _ _ _ hc46) (H.c .nil) ?_)
     refine AList.nil ?_
     refine AWp.block ?_
     refine AWp.seq ?_
     refine W.kp [0, 4, 5, 6, 7, 38, 55] ?_
     refine AWp.region ?_
     refine L.Y Y.bin ?_
     refine L.Y Y.asg ?_
     refine AList.nil ?_
     refine W.cond (fun hb => ?_) (fun hb => ?_)
     ·
      have hb47 := hb
      try simp only [hS, hE, ne_eq] at hb
      first | rw [if_pos hb47] at h | rw [if_neg (Bool.eq_false_iff.1 hb47)] at h | rw [if_pos hb] at h | rw [if_neg hb] at h | (simp only [hb, hT, reduceIte] at h) | skip
      refine AWp.region ?_
      refine L.Y Y.mv ?_
      refine L.Y Y.mv ?_
      refine L.Y Y.mv ?_
      refine L.Y (Y.ln Tryd.underlying22) ?_
      obtain ⟨⟨t278, t279, t280⟩, hc48, h⟩ := Option.bind_eq_some_iff.1 h
      dsimp only at h
      repeat (first | (rw [iN] at h; obtain ⟨_, h⟩ := h) | (rw [iP] at h; obtain ⟨_, h⟩ := h) | (simp only [bS] at h))
      refine L.C (C.callE (l := false) [0] Tryd.func80 (spec_l1Cur_pick.ac _ _ _ _ _ _ _ hc48) (H.c .nil) ?_)
      refine L.Y Y.mv ?_
      refine L.M (M.bs Tryd.underlying22 Y3) ?_
      obtain ⟨⟨t284, t285, t286⟩, hc49, h⟩ := Option.bind_eq_some_iff.1 h
      dsimp only at h
      repeat (first | (rw [iN] at h; obtain ⟨_, h⟩ := h) | (rw [iP] at h; obtain ⟨_, h⟩ := h) | (simp only [bS] at h))
      refine L.C ?_
      refine C.frz 4 ?_
      refine C.callE (l := false) [0] Tryd.func81 (spec_l1Cur_among.ac _ _ _ _ _ _ _ hc49) (H.c .nil) ?_
      refine L.Y (Y.ixo Tryd.underlying22 Y3) ?_
      refine L.S (S.sts Y3) ?_
      refine AList.nil ?_
      refine AWp.seq ?_
      refine W.kp [0, 4, 5, 6, 7, 38, 55, 56] ?_
      refine AWp.region ?_
      refine L.Y Y.mv ?_
      refine L.Y Y.mv ?_
      refine L.Y Y.asg ?_
      refine L.Y Y.asg ?_
      refine AList.nil ?_
      simp only [Option.some.injEq, Prod.mk.injEq] at h
      obtain ⟨rfl, rfl, rfl, rfl⟩ := h
      refine AWp.ret ?_
      exact ⟨.inr rfl, [(2, _), (3, _)], _, ⟨rfl, rfl⟩, IsPart.at [] [0, 1] base1 (H.c (H.c .nil)) (E.c (E.c .nil))⟩
     ·
      have hb47 := hb
      try simp only [hS, hE, ne_eq] at hb
      first | rw [if_pos hb47] at h | rw [if_neg (Bool.eq_false_iff.1 hb47)] at h | rw [if_pos hb] at h | rw [if_neg hb] at h | (simp only [hb, hT, reduceIte] at h) | skip
      refine AWp.seq ?_
      refine AWp.region ?_
      refine L.Y Y.bin ?_
      refine L.Y Y.asg ?_
      refine AList.nil ?_
      refine W.cond (fun hb => ?_) (fun hb => ?_)
      ·
       have hb50 := hb
       try simp only [hS, hE, ne_eq] at hb
       first | rw [if_pos hb50] at h | rw [if_neg (Bool.eq_false_iff.1 hb50)] at h | rw [if_pos hb] at h | rw [if_neg hb] at h | (simp only [hb, hT, reduceIte] at h) | skip
       repeat (first | (rw [iN] at h; obtain ⟨_, h⟩ := h) | (rw [iP] at h; obtain ⟨_, h⟩ := h) | (simp only [bS] at h))
       refine AWp.region ?_
       refine L.Y Y.mv ?_
       refine L.Y Y.mv ?_
       refine L.Y Y.bin ?_
       refine L.M (M.bs Tryd.underlying22 Y3) ?_
       obtain ⟨⟨t291, t292, t293⟩, hc51, h⟩ := Option.bind_eq_some_iff.1 h
       dsimp only at h
       refine L.C ?_
       refine C.frz 4 ?_
       refine C.callE (l := false) [0] Tryd.func81 (spec_l1Cur_among.ac _ _ _ _ _ _ _ hc51) (H.c .nil) ?_
       refine L.Y Y.asg ?_
       refine AList.nil ?_
       refine AWp.seq ?_
       refine W.kp [0, 4, 5, 6, 7, 38, 55, 56, 67] ?_
       refine AWp.region ?_
       refine L.Y Y.mv ?_
       refine L.Y Y.mv ?_
       refine L.Y Y.asg ?_
       refine L.Y Y.asg ?_
       refine AList.nil ?_
       simp only [Option.some.injEq, Prod.mk.injEq] at h
       obtain ⟨rfl, rfl, rfl, rfl⟩ := h
       refine AWp.ret ?_
       exact ⟨.inr rfl, [(2, _), (3, _)], _, ⟨rfl, rfl⟩, IsPart.at [] [0, 1] base1 (H.c (H.c .nil)) (E.c (E.c .nil))⟩
      ·
       have hb50 := hb
       try simp only [hS, hE, ne_eq] at hb
       first | rw [if_pos hb50] at h | rw [if_neg (Bool.eq_false_iff.1 hb50)] at h | rw [if_pos hb] at h | rw [if_neg hb] at h | (simp only [hb, hT, reduceIte] at h) | skip
       refine AWp.seq ?_
       refine AWp.seq ?_
       refine AWp.region ?_
       refine L.Y Y.bin ?_
       refine L.Y Y.asg ?_
       refine AList.nil ?_
       refine W.cond (fun hb => ?_) (fun hb => ?_)
       ·
        have hb52 := hb
        try simp only [hS, hE, ne_eq] at hb
        first | rw [if_pos hb52] at h | rw [if_neg (Bool.eq_false_iff.1 hb52)] at h | rw [if_pos hb] at h | rw [if_neg hb] at h | (simp only [hb, hT, reduceIte] at h) | skip
        refine AWp.skip ?_
        refine W.cond (fun hb => ?_) (fun hb => ?_)
        rotate_left
        ·
         exact DD hb
        have hb53 := hb
        refine AWp.seq ?_
        refine AWp.region ?_
        refine L.Y Y.mv ?_
        refine L.Y Y.mv ?_
        refine L.Y (Y.ln Tryd.underlying22) ?_
        obtain ⟨⟨t294, t295, t296⟩, hc54, h⟩ := Option.bind_eq_some_iff.1 h
        dsimp only at h
        repeat (first | (rw [iN] at h; obtain ⟨_, h⟩ := h) | (rw [iP] at h; obtain ⟨_, h⟩ := h) | (simp only [bS] at h))
        refine L.C (C.callE (l := false) [0] Tryd.func80 (spec_l1Cur_pick.ac _ _ _ _ _ _ _ hc54) (H.c .nil) ?_)
        refine L.Y Y.asg ?_
        refine AList.nil ?_
        refine W.kp [0, 4, 5, 6, 7, 9, 38, 55, 56, 67, 74] ?_
        refine AWp.region ?_
        refine L.Y Y.mv ?_
        refine L.Y Y.mv ?_
        refine L.Y Y.mv ?_
        refine L.Y (Y.ixo Tryd.underlying22 Y3) ?_
        refine L.S (S.sts Y3) ?_
        refine AList.nil ?_
        refine AWp.seq ?_
        refine W.kp [0, 4, 5, 6, 7, 9, 38, 55, 56, 67, 74] ?_
        refine AWp.region ?_
        refine L.Y Y.mv ?_
        refine L.Y Y.mv ?_
        refine L.Y Y.asg ?_
        refine L.Y Y.asg ?_
        refine AList.nil ?_
        simp only [Option.some.injEq, Prod.mk.injEq] at h
        obtain ⟨rfl, rfl, rfl, rfl⟩ := h
        refine AWp.ret ?_
        exact ⟨.inr rfl, [(2, _), (3, _)], _, ⟨rfl, rfl⟩, IsPart.at [] [0, 1] base1 (H.c (H.c .nil)) (E.c (E.c .nil))⟩
       ·
        have hb52 := hb
        try simp only [hS, hE, ne_eq] at hb
        first | rw [if_pos hb52] at h | rw [if_neg (Bool.eq_false_iff.1 hb52)] at h | rw [if_pos hb] at h | rw [if_neg hb] at h | (simp only [hb, hT, reduceIte] at h) | skip
        refine AWp.region ?_
        refine L.Y Y.bin ?_
        refine L.Y Y.asg ?_
        refine AList.nil ?_
        refine W.cond (fun hb => ?_) (fun hb => ?_)
        ·
         have hb55 := hb
         try simp only [hS, hE, ne_eq] at hb
         first | rw [if_pos hb55] at h | rw [if_neg (Bool.eq_false_iff.1 hb55)] at h | rw [if_pos hb] at h | rw [if_neg hb] at h | (simp only [hb, hT, reduceIte] at h) | skip
         refine AWp.seq ?_
         refine W.kp [0, 4, 5, 6, 7, 38, 55, 56, 67, 74] ?_
         refine AWp.region ?_
         refine L.Y Y.mv ?_
         refine L.Y Y.mv ?_
         refine L.Y (Y.ln Tryd.underlying22) ?_
         obtain ⟨⟨t298, t299, t300⟩, hc56, h⟩ := Option.bind_eq_some_iff.1 h
         dsimp only at h
         repeat (first | (rw [iN] at h; obtain ⟨_, h⟩ := h) | (rw [iP] at h; obtain ⟨_, h⟩ := h) | (simp only [bS] at h))
         refine L.C (C.callE (l := false) [0] Tryd.func80 (spec_l1Cur_pick.ac _ _ _ _ _ _ _ hc56) (H.c .nil) ?_)
         refine L.Y Y.asg ?_
         refine AList.nil ?_
         refine W.kp [0, 4, 5, 6, 7, 9, 38, 55, 56, 67, 74] ?_
         refine AWp.region ?_
         refine L.Y Y.mv ?_
         refine L.Y Y.mv ?_
         refine L.Y Y.mv ?_
         refine L.Y (Y.ixo Tryd.underlying22 Y3) ?_
         refine L.S (S.sts Y3) ?_
         refine AList.nil ?_
         refine AWp.seq ?_
         refine W.kp [0, 4, 5, 6, 7, 9, 38, 55, 56, 67, 74] ?_
         refine AWp.region ?_
         refine L.Y Y.mv ?_
         refine L.Y Y.mv ?_
         refine L.Y Y.asg ?_
         refine L.Y Y.asg ?_
         refine AList.nil ?_
         simp only [Option.some.injEq, Prod.mk.injEq] at h
         obtain ⟨rfl, rfl, rfl, rfl⟩ := h
         refine AWp.ret ?_
         exact ⟨.inr rfl, [(2, _), (3, _)], _, ⟨rfl, rfl⟩, IsPart.at [] [0, 1] base1 (H.c (H.c .nil)) (E.c (E.c .nil))⟩
        ·
         have hb55 := hb
         try simp only [hS, hE, ne_eq] at hb
         first | rw [if_pos hb55] at h | rw [if_neg (Bool.eq_false_iff.1 hb55)] at h | rw [if_pos hb] at h | rw [if_neg hb] at h | (simp only [hb, hT, reduceIte] at h) | skip
         refine AWp.skip ?_
         refine AWp.seq ?_
         refine W.kp [0, 4, 5, 6, 7, 38, 55, 56, 67, 74] ?_
         refine AWp.region ?_
         refine L.Y Y.mv ?_
         refine L.Y Y.mv ?_
         refine L.Y Y.asg ?_
         refine L.Y Y.asg ?_
         refine AList.nil ?_
         simp only [Option.some.injEq, Prod.mk.injEq] at h
         obtain ⟨rfl, rfl, rfl, rfl⟩ := h
         refine AWp.ret ?_
         exact ⟨.inr rfl, [(2, _), (3, _)], _, ⟨rfl, rfl⟩, IsPart.at [] [0, 1] base1 (H.c (H.c .nil)) (E.c (E.c .nil))⟩
  ·
   have hb7 := hb
   try simp only [hS, hE, ne_eq] at hb
   first | rw [if_pos hb7] at h | rw [if_neg (Bool.eq_false_iff.1 hb7)] at h | rw [if_pos hb] at h | rw [if_neg hb] at h | (simp only [hb, hT, reduceIte] at h) | skip
   refine L.Gn hb7 ?_
   refine L.Gn hb7 ?_
   refine L.Y (Y.pk (c := false) hb7) ?_
   refine L.Y Y.mv ?_
   refine L.Gc (fun hb => ?_) (fun hb => ?_)
   ·
    exact DD hb
   have hb57 := hb
   refine L.Gn hb57 ?_
   refine L.Gn hb57 ?_
   refine L.Y (Y.pk (c := false) hb57) ?_
   refine AList.nil ?_
   rcases k with _ | k
   ·
    exact absurd h (by simp [spec_l1Cur_chosen.j1])
   simp only [spec_l1Cur_chosen.j1] at h
   refine W.cond (fun hb => ?_) (fun hb => ?_)
   ·
    exact DD hb
   have hb58 := hb
   try (first | rw [if_pos hb58] at h | rw [if_neg (Bool.eq_false_iff.1 hb58)] at h | rw [if_pos hb] at h | rw [if_neg hb] at h | (simp only [hb, hT, reduceIte] at h) | skip)
   refine AWp.seq ?_
   refine W.kp [0, 2, 3, 4, 5, 6, 17, 30] ?_
   refine AWp.region ?_
   refine L.Y Y.asg ?_
   refine AList.nil ?_
   refine AWp.block ?_
   refine AWp.loopI (fun kk e H => kk ≤ k ∧ ∃ (x4 : Int) (x5 : List Int) (x7 : Int) (x1001 : Int) (x1002 : Int) (x249000 : Int) (x249001 : List Int), e = [(0, .ptr 0 0), (4, .lit (.int .i64 x4)), (5, .own 1 x5.length), (6, .ptr 2 0), (7, .lit (.int .i64 x7))] ∧ H = [.bx 82 [.row 1 s0_0.length false (ints .u8 s0_0), .lit (.int .i64 x1001), .lit (.int .u64 x1002)], .sl 3 1 x5.length false (ints .i64 x5), .bx 30 [.lit (.int .i64 x249000), .own 3 x249001.length], .sl 3 1 x249001.length false (ints .i64 x249001)] ∧ spec_l1Cur_chosen.l0 kk x4 x5 x7 s0_0 x1001 x1002 = some (r1, r2, r3, r4)) (k := k)
    ⟨_, _, ⟨Nat.le_refl _, _, _, _, _, _, _, _, rfl, rfl, h⟩, IsPart.at [(3, 1)] [0, 5, 3, 4] base1 (H.c (H.c (H.c (H.c .nil)))) (E.c (E.c (E.c (E.c (E.c .nil)))))⟩ ?_
   clear h
   rintro k59 e H ⟨hk60, x4, x5, x7, x1001, x1002, x249000, x249001, rfl, rfl, h⟩
   cases k59 with
   | zero => exact absurd h (by simp [spec_l1Cur_chosen.l0])
   | succ k59 =>
   simp only [spec_l1Cur_chosen.l0] at h
   repeat (first | (rw [iN] at h; obtain ⟨_, h⟩ := h) | (rw [iP] at h; obtain ⟨_, h⟩ := h) | (simp only [bS] at h))
   refine AWp.seq ?_
   refine AWp.seq ?_
   refine AWp.region ?_
   refine L.Y Y.mv ?_
   refine L.Y Y.mv ?_
   refine L.Y Y.bin ?_
   refine L.Y Y.bin ?_
   refine AList.nil ?_
   refine W.cond (fun hb => ?_) (fun hb => ?_)
   ·
    have hb61 := hb
    try simp only [hS, hE, ne_eq] at hb
    first | rw [if_pos hb61] at h | rw [if_neg (Bool.eq_false_iff.1 hb61)] at h | rw [if_pos hb] at h | rw [if_neg hb] at h | (simp only [hb, hT, reduceIte] at h) | skip
    refine AWp.skip ?_
    refine AWp.seq ?_
    refine AWp.block ?_
    refine AWp.seq ?_
    refine AWp.region ?_
    refine L.Y Y.mv ?_
    refine L.Y Y.mv ?_
    refine L.Y Y.mv ?_
    refine L.Y Y.bin ?_
    obtain ⟨⟨t266, t267, t268⟩, hc62, h⟩ := Option.bind_eq_some_iff.1 h
    dsimp only at h
    refine L.C (C.callE (l := false) [0] Tryd.func80 (spec_l1Cur_pick.ac _ _ _ _ _ _ _ hc62) (H.c .nil) ?_)
    refine L.Y Y.bin ?_
    refine L.Y Y.asg ?_
    refine AList.nil ?_
    refine AWp.seq ?_
    refine AWp.seq ?_
    refine W.kp [0, 4, 5, 6, 7, 8, 38] ?_
    refine AWp.region ?_
    refine L.Y Y.mv ?_
    refine L.Y Y.bin ?_
    refine AList.nil ?_
    refine W.cond (fun hb => ?_) (fun hb => ?_)
    ·
     have hb63 := hb
     try simp only [hS, hE, ne_eq] at hb
     first | rw [if_pos hb63] at h | rw [if_neg (Bool.eq_false_iff.1 hb63)] at h | rw [if_pos hb] at h | rw [if_neg hb] at h | (simp only [hb, hT, reduceIte] at h) | skip
     repeat (first | (rw [iN] at h; obtain ⟨_, h⟩ := h) | (rw [iP] at h; obtain ⟨_, h⟩ := h) | (simp only [bS] at h))
     refine AWp.region ?_
     refine L.Y Y.mv ?_
     refine L.Y Y.asg ?_
     refine AList.nil ?_
     refine AWp.region ?_
     refine L.Y Y.mv ?_
     refine L.Y Y.mv ?_
     refine L.M (M.bs Tryd.underlying22 Y3) ?_
     refine L.S (S.ap (nn' := false) Tryd.underlying22 Y3) ?_
     refine L.Y Y.asg ?_
     refine AList.nil ?_
     refine W.kp [0, 4, 5, 6, 7, 8, 38, 48] ?_
     refine AWp.region ?_
     refine L.Y Y.mv ?_
     refine L.Y Y.bin ?_
     refine L.Y Y.asg ?_
     refine AList.nil ?_
     exact ⟨k59, by omega, _, _, ⟨by omega, _, _, _, _, _, _, _, rfl, rfl, h⟩, IsPart.at [] [0, 1, 2, 3] base1 (H.c (H.c (H.c (H.c .nil)))) (E.c (E.c (E.c (E.c (E.c .nil)))))⟩
    ·
     have hb63 := hb
     try simp only [hS, hE, ne_eq] at hb
     first | rw [if_pos hb63] at h | rw [if_neg (Bool.eq_false_iff.1 hb63)] at h | rw [if_pos hb] at h | rw [if_neg hb] at h | (simp only [hb, hT, reduceIte] at h) | skip
     repeat (first | (rw [iN] at h; obtain ⟨_, h⟩ := h) | (rw [iP] at h; obtain ⟨_, h⟩ := h) | (simp only [bS] at h))
     refine AWp.skip ?_
     refine AWp.region ?_
     refine L.Y Y.mv ?_
     refine L.Y Y.mv ?_
     refine L.M (M.bs Tryd.underlying22 Y3) ?_
     refine L.S (S.ap (nn' := false) Tryd.underlying22 Y3) ?_
     refine L.Y Y.asg ?_
     refine AList.nil ?_
     refine W.kp [0, 4, 5, 6, 7, 8, 38, 48] ?_
     refine AWp.region ?_
     refine L.Y Y.mv ?_
     refine L.Y Y.bin ?_
     refine L.Y Y.asg ?_
     refine AList.nil ?_
     exact ⟨k59, by omega, _, _, ⟨by omega, _, _, _, _, _, _, _, rfl, rfl, h⟩, IsPart.at [] [0, 1, 2, 3] base1 (H.c (H.c (H.c (H.c .nil)))) (E.c (E.c (E.c (E.c (E.c .nil)))))⟩
   ·
    have hb61 := hb
    try simp only [hS, hE, ne_eq] at hb
    first | rw [if_pos hb61] at h | rw [if_neg (Bool.eq_false_iff.1 hb61)] at h | rw [if_pos hb] at h | rw [if_neg hb] at h | (simp only [hb, hT, reduceIte] at h) | skip
    refine AWp.exit ?_
    refine AWp.seq ?_
    refine AWp.seq ?_
    refine AWp.region ?_
    refine L.Y Y.mv ?_
    rcases k59 with _ | k59
    ·
     exact absurd h (by simp [spec_l1Cur_chosen.j3])
    simp only [spec_l1Cur_chosen.j3] at h
    obtain ⟨⟨t275, t276, t277⟩, hc64, h⟩ := Option.bind_eq_some_iff.1 h
    dsimp only at h
    refine L.C (C.callE (l := false) [0] Tryd.func80 (spec_l1Cur_pick.ac _ _ _ _ _ _ _ hc64) (H.c .nil) ?_)
    refine AList.nil ?_
    refine AWp.block ?_
    refine AWp.seq ?_
    refine W.kp [0, 4, 5, 6, 7, 38, 55] ?_
    refine AWp.region ?_
    refine L.Y Y.bin ?_
    refine L.Y Y.asg ?_
    refine AList.nil ?_
    refine W.cond (fun hb => ?_) (fun hb => ?_)
    ·
     have hb65 := hb
     try simp only [hS, hE, ne_eq] at hb
     first | rw [if_pos hb65] at h | rw [if_neg (Bool.eq_false_iff.1 hb65)] at h | rw [if_pos hb] at h | rw [if_neg hb] at h | (simp only [hb, hT, reduceIte] at h) | skip
     refine AWp.region ?_
     refine L.Y Y.mv ?_
     refine L.Y Y.mv ?_
     refine L.Y Y.mv ?_
     refine L.Y (Y.ln Tryd.underlying22) ?_
     obtain ⟨⟨t278, t279, t280⟩, hc66, h⟩ := Option.bind_eq_some_iff.1 h
     dsimp only at h
     repeat (first | (rw [iN] at h; obtain ⟨_, h⟩ := h) | (rw [iP] at h; obtain ⟨_, h⟩ := h) | (simp only [bS] at h))
     refine L.C (C.callE (l := false) [0] Tryd.func80 (spec_l1Cur_pick.ac _ _ _ _ _ _ _ hc66) (H.c .nil) ?_)
     refine L.Y Y.mv ?_
     refine L.M (M.bs Tryd.underlying22 Y3) ?_
     obtain ⟨⟨t284, t285, t286⟩, hc67, h⟩ := Option.bind_eq_some_iff.1 h
     dsimp only at h
     repeat (first | (rw [iN] at h; obtain ⟨_, h⟩ := h) | (rw [iP] at h; obtain ⟨_, h⟩ := h) | (simp only [bS] at h))
     refine L.C ?_
     refine C.frz 4 ?_
     refine C.callE (l := false) [0] Tryd.func81 (spec_l1Cur_among.ac _ _ _ _ _ _ _ hc67) (H.c .nil) ?_
     refine L.Y (Y.ixo Tryd.underlying22 Y3) ?_
     refine L.S (S.sts Y3) ?_
     refine AList.nil ?_
     refine AWp.seq ?_
     refine W.kp [0, 4, 5, 6, 7, 38, 55, 56] ?_
     refine AWp.region ?_
     refine L.Y Y.mv ?_
     refine L.Y Y.mv ?_
     refine L.Y Y.asg ?_
     refine L.Y Y.asg ?_
     refine AList.nil ?_
     simp only [Option.some.injEq, Prod.mk.injEq] at h
     obtain ⟨rfl, rfl, rfl, rfl⟩ := h
     refine AWp.ret ?_
     exact ⟨.inr rfl, [(2, _), (3, _)], _, ⟨rfl, rfl⟩, IsPart.at [] [0, 1] base1 (H.c (H.c .nil)) (E.c (E.c .nil))⟩
    ·
     have hb65 := hb
     try simp only [hS, hE, ne_eq] at hb
     first | rw [if_pos hb65] at h | rw [if_neg (Bool.eq_false_iff.1 hb65)] at h | rw [if_pos hb] at h | rw [if_neg hb] at h | (simp only [hb, hT, reduceIte] at h) | skip
     refine AWp.seq ?_
     refine AWp.region ?_
     refine L.Y Y.bin ?_
     refine L.Y Y.asg ?_
     refine AList.nil ?_
     refine W.cond (fun hb => ?_) (fun hb => ?_)
     ·
      have hb68 := hb
      try simp only [hS, hE, ne_eq] at hb
      first | rw [if_pos hb68] at h | rw [if_neg (Bool.eq_false_iff.1 hb68)] at h | rw [if_pos hb] at h | rw [if_neg hb] at h | (simp only [hb, hT, reduceIte] at h) | skip
      repeat (first | (rw [iN] at h; obtain ⟨_, h⟩ := h) | (rw [iP] at h; obtain ⟨_, h⟩ := h) | (simp only [bS] at h))
      refine AWp.region ?_
      refine L.Y Y.mv ?_
      refine L.Y Y.mv ?_
      refine L.Y Y.bin ?_
      refine L.M (M.bs Tryd.underlying22 Y3) ?_
      obtain ⟨⟨t291, t292, t293⟩, hc69, h⟩ := Option.bind_eq_some_iff.1 h
      dsimp only at h
      refine L.C ?_
      refine C.frz 4 ?_
      refine C.callE (l := false) [0] Tryd.func81 (spec_l1Cur_among.ac _ _ _ _ _ _ _ hc69) (H.c .nil) ?_
      refine L.Y Y.asg ?_
      refine AList.nil ?_
      refine AWp.seq ?_
      refine W.kp [0, 4, 5, 6, 7, 38, 55, 56, 67] ?_
      refine AWp.region ?_
      refine L.Y Y.mv ?_
      refine L.Y Y.mv ?_
      refine L.Y Y.asg ?_
      refine L.Y Y.asg ?_
      refine AList.nil ?_
      simp only [Option.some.injEq, Prod.mk.injEq] at h
      obtain ⟨rfl, rfl, rfl, rfl⟩ := h
      refine AWp.ret ?_
      exact ⟨.inr rfl, [(2, _), (3, _)], _, ⟨rfl, rfl⟩, IsPart.at [] [0, 1] base1 (H.c (H.c .nil)) (E.c (E.c .nil))⟩
     ·
      have hb68 := hb
      try simp only [hS, hE, ne_eq] at hb
      first | rw [if_pos hb68] at h | rw [if_neg (Bool.eq_false_iff.1 hb68)] at h | rw [if_pos hb] at h | rw [if_neg hb] at h | (simp only [hb, hT, reduceIte] at h) | skip
      refine AWp.seq ?_
      refine AWp.seq ?_
      refine AWp.region ?_
      refine L.Y Y.bin ?_
      refine L.Y Y.asg ?_
      refine AList.nil ?_
      refine W.cond (fun hb => ?_) (fun hb => ?_)
      ·
       have hb70 := hb
       try simp only [hS, hE, ne_eq] at hb
       first | rw [if_pos hb70] at h | rw [if_neg (Bool.eq_false_iff.1 hb70)] at h | rw [if_pos hb] at h | rw [if_neg hb] at h | (simp only [hb, hT, reduceIte] at h) | skip
       refine AWp.skip ?_
       refine W.cond (fun hb => ?_) (fun hb => ?_)
       rotate_left
       ·
        exact DD hb
       have hb71 := hb
       refine AWp.seq ?_
       refine AWp.region ?_
       refine L.Y Y.mv ?_
       refine L.Y Y.mv ?_
       refine L.Y (Y.ln Tryd.underlying22) ?_
       obtain ⟨⟨t294, t295, t296⟩, hc72, h⟩ := Option.bind_eq_some_iff.1 h
       dsimp only at h
       repeat (first | (rw [iN] at h; obtain ⟨_, h⟩ := h) | (rw [iP] at h; obtain ⟨_, h⟩ := h) | (simp only [bS] at h))
       refine L.C (C.callE (l := false) [0] Tryd.func80 (spec_l1Cur_pick.ac _ _ _ _ _ _ _ hc72) (H.c .nil) ?_)
       refine L.Y Y.asg ?_
       refine AList.nil ?_
       refine W.kp [0, 4, 5, 6, 7, 9, 38, 55, 56, 67, 74] ?_
       refine AWp.region ?_
       refine L.Y Y.mv ?_
       refine L.Y Y.mv ?_
       refine L.Y Y.mv ?_
       refine L.Y (Y.ixo Tryd.underlying22 Y3) ?_
       refine L.S (S.sts Y3) ?_
       refine AList.nil ?_
       refine AWp.seq ?_
       refine W.kp [0, 4, 5, 6, 7, 9, 38, 55, 56, 67, 74] ?_
       refine AWp.region ?_
       refine L.Y Y.mv ?_
       refine L.Y Y.mv ?_
       refine L.Y Y.asg ?_
       refine L.Y Y.asg ?_
       refine AList.nil ?_
       simp only [Option.some.injEq, Prod.mk.injEq] at h
       obtain ⟨rfl, rfl, rfl, rfl⟩ := h
       refine AWp.ret ?_
       exact ⟨.inr rfl, [(2, _), (3, _)], _, ⟨rfl, rfl⟩, IsPart.at [] [0, 1] base1 (H.c (H.c .nil)) (E.c (E.c .nil))⟩
      ·
       have hb70 := hb
       try simp only [hS, hE, ne_eq] at hb
       first | rw [if_pos hb70] at h | rw [if_neg (Bool.eq_false_iff.1 hb70)] at h | rw [if_pos hb] at h | rw [if_neg hb] at h | (simp only [hb, hT, reduceIte] at h) | skip
       refine AWp.region ?_
       refine L.Y Y.bin ?_
       refine L.Y Y.asg ?_
       refine AList.nil ?_
       refine W.cond (fun hb => ?_) (fun hb => ?_)
       ·
        have hb73 := hb
        try simp only [hS, hE, ne_eq] at hb
        first | rw [if_pos hb73] at h | rw [if_neg (Bool.eq_false_iff.1 hb73)] at h | rw [if_pos hb] at h | rw [if_neg hb] at h | (simp only [hb, hT, reduceIte] at h) | skip
        refine AWp.seq ?_
        refine W.kp [0, 4, 5, 6, 7, 38, 55, 56, 67, 74] ?_
        refine AWp.region ?_
        refine L.Y Y.mv ?_
        refine L.Y Y.mv ?_
        refine L.Y (Y.ln Tryd.underlying22) ?_
        obtain ⟨⟨t298, t299, t300⟩, hc74, h⟩ := Option.bind_eq_some_iff.1 h
        dsimp only at h
        repeat (first | (rw [iN] at h; obtain ⟨_, h⟩ := h) | (rw [iP] at h; obtain ⟨_, h⟩ := h) | (simp only [bS] at h))
        refine L.C (C.callE (l := false) [0] Tryd.func80 (spec_l1Cur_pick.ac _ _ _ _ _ _ _ hc74) (H.c .nil) ?_)
        refine L.Y Y.asg ?_
        refine AList.nil ?_
        refine W.kp [0, 4, 5, 6, 7, 9, 38, 55, 56, 67, 74] ?_
        refine AWp.region ?_
        refine L.Y Y.mv ?_
        refine L.Y Y.mv ?_
        refine L.Y Y.mv ?_
        refine L.Y (Y.ixo Tryd.underlying22 Y3) ?_
        refine L.S (S.sts Y3) ?_
        refine AList.nil ?_
        refine AWp.seq ?_
        refine W.kp [0, 4, 5, 6, 7, 9, 38, 55, 56, 67, 74] ?_
        refine AWp.region ?_
        refine L.Y Y.mv ?_
        refine L.Y Y.mv ?_
        refine L.Y Y.asg ?_
        refine L.Y Y.asg ?_
        refine AList.nil ?_
        simp only [Option.some.injEq, Prod.mk.injEq] at h
        obtain ⟨rfl, rfl, rfl, rfl⟩ := h
        refine AWp.ret ?_
        exact ⟨.inr rfl, [(2, _), (3, _)], _, ⟨rfl, rfl⟩, IsPart.at [] [0, 1] base1 (H.c (H.c .nil)) (E.c (E.c .nil))⟩
       ·
        have hb73 := hb
        try simp only [hS, hE, ne_eq] at hb
        first | rw [if_pos hb73] at h | rw [if_neg (Bool.eq_false_iff.1 hb73)] at h | rw [if_pos hb] at h | rw [if_neg hb] at h | (simp only [hb, hT, reduceIte] at h) | skip
        refine AWp.skip ?_
        refine AWp.seq ?_
        refine W.kp [0, 4, 5, 6, 7, 38, 55, 56, 67, 74] ?_
        refine AWp.region ?_
        refine L.Y Y.mv ?_
        refine L.Y Y.mv ?_
        refine L.Y Y.asg ?_
        refine L.Y Y.asg ?_
        refine AList.nil ?_
        simp only [Option.some.injEq, Prod.mk.injEq] at h
        obtain ⟨rfl, rfl, rfl, rfl⟩ := h
        refine AWp.ret ?_
        exact ⟨.inr rfl, [(2, _), (3, _)], _, ⟨rfl, rfl⟩, IsPart.at [] [0, 1] base1 (H.c (H.c .nil)) (E.c (E.c .nil))⟩
 ·
  have hb4 := hb
  try simp only [hS, hE, ne_eq] at hb
  first | rw [if_pos hb4] at h | rw [if_neg (Bool.eq_false_iff.1 hb4)] at h | rw [if_pos hb] at h | rw [if_neg hb] at h | (simp only [hb, hT, reduceIte] at h) | skip
  refine AWp.skip ?_
  refine AWp.seq ?_
  refine AWp.seq ?_
  refine AWp.region ?_
  refine L.S (S.ldN Tryd.underlying30 Y30) ?_
  rcases k with _ | k
  ·
   exact absurd h (by simp [spec_l1Cur_chosen.j0])
  simp only [spec_l1Cur_chosen.j0] at h
  obtain ⟨t258, hc75, h⟩ := Option.bind_eq_some_iff.1 h
  refine L.C (C.callE (l := true) [] Tryd.func84 (spec_orRelation.ac _ _ _ _ hc75) .nil ?_)
  refine L.Y Y.mv ?_
  refine L.Gc (fun hb => ?_) (fun hb => ?_)
  ·
   have hb76 := hb
   try simp only [hS, hE, ne_eq] at hb
   first | rw [if_pos hb76] at h | rw [if_neg (Bool.eq_false_iff.1 hb76)] at h | rw [if_pos hb] at h | rw [if_neg hb] at h | (simp only [hb, hT, reduceIte] at h) | skip
   refine L.Gs hb76 (S.ldN Tryd.underlying30 Y30) ?_
   obtain ⟨t259, hc77, h⟩ := Option.bind_eq_some_iff.1 h
   refine L.GC hb76 (C.callE (l := true) [] Tryd.func87 (spec_cfAcyclic.ac _ _ _ _ hc77) .nil ?_)
   refine L.Y (Y.pk (c := true) hb76) ?_
   refine L.Y Y.mv ?_
   refine L.Gc (fun hb => ?_) (fun hb => ?_)
   ·
    have hb78 := hb
    try simp only [hS, hE, ne_eq] at hb
    first | rw [if_pos hb78] at h | rw [if_neg (Bool.eq_false_iff.1 hb78)] at h | rw [if_pos hb] at h | rw [if_neg hb] at h | (simp only [hb, hT, reduceIte] at h) | skip
    refine L.Gy hb78 Y.mv ?_
    obtain ⟨⟨t260, t261, t262⟩, hc79, h⟩ := Option.bind_eq_some_iff.1 h
    dsimp only at h
    refine L.GC hb78 (C.callE (l := false) [0] Tryd.func76 (spec_l1Cur_one.ac _ _ _ _ _ _ _ hc79) (H.c .nil) ?_)
    refine L.Y (Y.pk (c := true) hb78) ?_
    refine AList.nil ?_
    rcases k with _ | k
    ·
     exact absurd h (by simp [spec_l1Cur_chosen.j1])
    simp only [spec_l1Cur_chosen.j1] at h
    refine W.cond (fun hb => ?_) (fun hb => ?_)
    ·
     have hb80 := hb
     try simp only [hS, hE, ne_eq] at hb
     first | rw [if_pos hb80] at h | rw [if_neg (Bool.eq_false_iff.1 hb80)] at h | rw [if_pos hb] at h | rw [if_neg hb] at h | (simp only [hb, hT, reduceIte] at h) | skip
     refine AWp.seq ?_
     refine W.kp [0, 2, 3, 4, 5, 6, 17, 30] ?_
     refine AWp.region ?_
     refine L.Y (Y.fa (off := 0) Tryd.underlying30 Y3) ?_
     refine L.S (S.ld Tryd.underlying3) ?_
     refine L.Y Y.asg ?_
     refine AList.nil ?_
     refine AWp.region ?_
     refine L.S (S.ldN Tryd.underlying30 Y30) ?_
     obtain ⟨t263, hc81, h⟩ := Option.bind_eq_some_iff.1 h
     refine L.C (C.callE (l := true) [] Tryd.func93 (spec_cfTable.ac _ _ _ _ hc81) .nil ?_)
     refine L.Y Y.asg ?_
     refine AList.nil ?_
     refine AWp.seq ?_
     refine AWp.seq ?_
     refine W.kp [0, 2, 3, 4, 5, 6, 17, 30] ?_
     refine AWp.region ?_
     refine L.Y Y.mv ?_
     rcases k with _ | k
     ·
      exact absurd h (by simp [spec_l1Cur_chosen.j3])
     simp only [spec_l1Cur_chosen.j3] at h
     obtain ⟨⟨t275, t276, t277⟩, hc82, h⟩ := Option.bind_eq_some_iff.1 h
     dsimp only at h
     refine L.C (C.callE (l := false) [0] Tryd.func80 (spec_l1Cur_pick.ac _ _ _ _ _ _ _ hc82) (H.c .nil) ?_)
     refine AList.nil ?_
     refine AWp.block ?_
     refine AWp.seq ?_
     refine AWp.region ?_
     refine L.Y Y.bin ?_
     refine L.Y Y.asg ?_
     refine AList.nil ?_
     refine W.cond (fun hb => ?_) (fun hb => ?_)
     ·
      have hb83 := hb
      try simp only [hS, hE, ne_eq] at hb
      first | rw [if_pos hb83] at h | rw [if_neg (Bool.eq_false_iff.1 hb83)] at h | rw [if_pos hb] at h | rw [if_neg hb] at h | (simp only [hb, hT, reduceIte] at h) | skip
      refine AWp.region ?_
      refine L.Y Y.mv ?_
      refine L.Y Y.mv ?_
      refine L.Y Y.mv ?_
      refine L.Y (Y.ln Tryd.underlying22) ?_
      obtain ⟨⟨t278, t279, t280⟩, hc84, h⟩ := Option.bind_eq_some_iff.1 h
      dsimp only at h
      repeat (first | (rw [iN] at h; obtain ⟨_, h⟩ := h) | (rw [iP] at h; obtain ⟨_, h⟩ := h) | (simp only [bS] at h))
      refine L.C (C.callE (l := false) [0] Tryd.func80 (spec_l1Cur_pick.ac _ _ _ _ _ _ _ hc84) (H.c .nil) ?_)
      refine L.Y Y.mv ?_
      refine L.M (M.bs Tryd.underlying22 Y3) ?_
      obtain ⟨⟨t284, t285, t286⟩, hc85, h⟩ := Option.bind_eq_some_iff.1 h
      dsimp only at h
      repeat (first | (rw [iN] at h; obtain ⟨_, h⟩ := h) | (rw [iP] at h; obtain ⟨_, h⟩ := h) | (simp only [bS] at h))
      refine L.C ?_
      refine C.frz 5 ?_
      refine C.callE (l := false) [0] Tryd.func81 (spec_l1Cur_among.ac _ _ _ _ _ _ _ hc85) (H.c .nil) ?_
      refine L.Y (Y.ixo Tryd.underlying22 Y3) ?_
      refine L.S (S.sts Y3) ?_
      refine AList.nil ?_
      refine AWp.seq ?_
      refine W.kp [0, 2, 3, 4, 5, 6, 17, 30, 55, 56] ?_
      refine AWp.region ?_
      refine L.Y Y.mv ?_
      refine L.Y Y.mv ?_
      refine L.Y Y.asg ?_
      refine L.Y Y.asg ?_
      refine AList.nil ?_
      simp only [Option.some.injEq, Prod.mk.injEq] at h
      obtain ⟨rfl, rfl, rfl, rfl⟩ := h
      refine AWp.ret ?_
      exact ⟨.inr rfl, [(2, _), (3, _)], _, ⟨rfl, rfl⟩, IsPart.at [] [0, 4] base1 (H.c (H.c .nil)) (E.c (E.c .nil))⟩
     ·
      have hb83 := hb
      try simp only [hS, hE, ne_eq] at hb
      first | rw [if_pos hb83] at h | rw [if_neg (Bool.eq_false_iff.1 hb83)] at h | rw [if_pos hb] at h | rw [if_neg hb] at h | (simp only [hb, hT, reduceIte] at h) | skip
      refine AWp.seq ?_
      refine AWp.region ?_
      refine L.Y Y.bin ?_
      refine L.Y Y.asg ?_
      refine AList.nil ?_
      refine W.cond (fun hb => ?_) (fun hb => ?_)
      ·
       have hb86 := hb
       try simp only [hS, hE, ne_eq] at hb
       first | rw [if_pos hb86] at h | rw [if_neg (Bool.eq_false_iff.1 hb86)] at h | rw [if_pos hb] at h | rw [if_neg hb] at h | (simp only [hb, hT, reduceIte] at h) | skip
       repeat (first | (rw [iN] at h; obtain ⟨_, h⟩ := h) | (rw [iP] at h; obtain ⟨_, h⟩ := h) | (simp only [bS] at h))
       refine AWp.region ?_
       refine L.Y Y.mv ?_
       refine L.Y Y.mv ?_
       refine L.Y Y.bin ?_
       refine L.M (M.bs Tryd.underlying22 Y3) ?_
       obtain ⟨⟨t291, t292, t293⟩, hc87, h⟩ := Option.bind_eq_some_iff.1 h
       dsimp only at h
       refine L.C ?_
       refine C.frz 5 ?_
       refine C.callE (l := false) [0] Tryd.func81 (spec_l1Cur_among.ac _ _ _ _ _ _ _ hc87) (H.c .nil) ?_
       refine L.Y Y.asg ?_
       refine AList.nil ?_
       refine AWp.seq ?_
       refine W.kp [0, 2, 3, 4, 5, 6, 17, 30, 55, 56, 67] ?_
       refine AWp.region ?_
       refine L.Y Y.mv ?_
       refine L.Y Y.mv ?_
       refine L.Y Y.asg ?_
       refine L.Y Y.asg ?_
       refine AList.nil ?_
       simp only [Option.some.injEq, Prod.mk.injEq] at h
       obtain ⟨rfl, rfl, rfl, rfl⟩ := h
       refine AWp.ret ?_
       exact ⟨.inr rfl, [(2, _), (3, _)], _, ⟨rfl, rfl⟩, IsPart.at [] [0, 4] base1 (H.c (H.c .nil)) (E.c (E.c .nil))⟩
      ·
       have hb86 := hb
       try simp only [hS, hE, ne_eq] at hb
       first | rw [if_pos hb86] at h | rw [if_neg (Bool.eq_false_iff.1 hb86)] at h | rw [if_pos hb] at h | rw [if_neg hb] at h | (simp only [hb, hT, reduceIte] at h) | skip
       refine AWp.seq ?_
       refine AWp.seq ?_
       refine AWp.region ?_
       refine L.Y Y.bin ?_
       refine L.Y Y.asg ?_
       refine AList.nil ?_
       refine W.cond (fun hb => ?_) (fun hb => ?_)
       ·
        have hb88 := hb
        try simp only [hS, hE, ne_eq] at hb
        first | rw [if_pos hb88] at h | rw [if_neg (Bool.eq_false_iff.1 hb88)] at h | rw [if_pos hb] at h | rw [if_neg hb] at h | (simp only [hb, hT, reduceIte] at h) | skip
        refine AWp.skip ?_
        refine W.cond (fun hb => ?_) (fun hb => ?_)
        rotate_left
        ·
         exact DD hb
        have hb89 := hb
        refine AWp.seq ?_
        refine W.kp [0, 2, 3, 4, 5, 6, 17, 30, 55, 56, 67, 74] ?_
        refine AWp.region ?_
        refine L.Y Y.mv ?_
        refine L.Y Y.mv ?_
        refine L.Y (Y.ln Tryd.underlying22) ?_
        obtain ⟨⟨t294, t295, t296⟩, hc90, h⟩ := Option.bind_eq_some_iff.1 h
        dsimp only at h
        repeat (first | (rw [iN] at h; obtain ⟨_, h⟩ := h) | (rw [iP] at h; obtain ⟨_, h⟩ := h) | (simp only [bS] at h))
        refine L.C (C.callE (l := false) [0] Tryd.func80 (spec_l1Cur_pick.ac _ _ _ _ _ _ _ hc90) (H.c .nil) ?_)
        refine L.Y Y.asg ?_
        refine AList.nil ?_
        refine W.kp [0, 2, 3, 4, 5, 6, 9, 17, 30, 55, 56, 67, 74] ?_
        refine AWp.region ?_
        refine L.Y Y.mv ?_
        refine L.Y Y.mv ?_
        refine L.Y Y.mv ?_
        refine L.Y (Y.ixo Tryd.underlying22 Y3) ?_
        refine L.S (S.sts Y3) ?_
        refine AList.nil ?_
        refine AWp.seq ?_
        refine W.kp [0, 2, 3, 4, 5, 6, 9, 17, 30, 55, 56, 67, 74] ?_
        refine AWp.region ?_
        refine L.Y Y.mv ?_
        refine L.Y Y.mv ?_
        refine L.Y Y.asg ?_
        refine L.Y Y.asg ?_
        refine AList.nil ?_
        simp only [Option.some.injEq, Prod.mk.injEq] at h
        obtain ⟨rfl, rfl, rfl, rfl⟩ := h
        refine AWp.ret ?_
        exact ⟨.inr rfl, [(2, _), (3, _)], _, ⟨rfl, rfl⟩, IsPart.at [] [0, 4] base1 (H.c (H.c .nil)) (E.c (E.c .nil))⟩
       ·
        have hb88 := hb
        try simp only [hS, hE, ne_eq] at hb
        first | rw [if_pos hb88] at h | rw [if_neg (Bool.eq_false_iff.1 hb88)] at h | rw [if_pos hb] at h | rw [if_neg hb] at h | (simp only [hb, hT, reduceIte] at h) | skip
        refine W.kp [0, 2, 3, 4, 5, 6, 17, 30, 55, 56, 67, 74] ?_
        refine AWp.region ?_
        refine L.Y Y.bin ?_
        refine L.Y Y.asg ?_
        refine AList.nil ?_
        refine W.cond (fun hb => ?_) (fun hb => ?_)
        ·
         have hb91 := hb
         try simp only [hS, hE, ne_eq] at hb
         first | rw [if_pos hb91] at h | rw [if_neg (Bool.eq_false_iff.1 hb91)] at h | rw [if_pos hb] at h | rw [if_neg hb] at h | (simp only [hb, hT, reduceIte] at h) | skip
         refine AWp.seq ?_
         refine AWp.region ?_
         refine L.Y Y.mv ?_
         refine L.Y Y.mv ?_
         refine L.Y (Y.ln Tryd.underlying22) ?_
         obtain ⟨⟨t298, t299, t300⟩, hc92, h⟩ := Option.bind_eq_some_iff.1 h
         dsimp only at h
         repeat (first | (rw [iN] at h; obtain ⟨_, h⟩ := h) | (rw [iP] at h; obtain ⟨_, h⟩ := h) | (simp only [bS] at h))
         refine L.C (C.callE (l := false) [0] Tryd.func80 (spec_l1Cur_pick.ac _ _ _ _ _ _ _ hc92) (H.c .nil) ?_)
         refine L.Y Y.asg ?_
         refine AList.nil ?_
         refine W.kp [0, 2, 3, 4, 5, 6, 9, 17, 30, 55, 56, 67, 74] ?_
         refine AWp.region ?_
         refine L.Y Y.mv ?_
         refine L.Y Y.mv ?_
         refine L.Y Y.mv ?_
         refine L.Y (Y.ixo Tryd.underlying22 Y3) ?_
         refine L.S (S.sts Y3) ?_
         refine AList.nil ?_
         refine AWp.seq ?_
         refine W.kp [0, 2, 3, 4, 5, 6, 9, 17, 30, 55, 56, 67, 74] ?_
         refine AWp.region ?_
         refine L.Y Y.mv ?_
         refine L.Y Y.mv ?_
         refine L.Y Y.asg ?_
         refine L.Y Y.asg ?_
         refine AList.nil ?_
         simp only [Option.some.injEq, Prod.mk.injEq] at h
         obtain ⟨rfl, rfl, rfl, rfl⟩ := h
         refine AWp.ret ?_
         exact ⟨.inr rfl, [(2, _), (3, _)], _, ⟨rfl, rfl⟩, IsPart.at [] [0, 4] base1 (H.c (H.c .nil)) (E.c (E.c .nil))⟩
        ·
         have hb91 := hb
         try simp only [hS, hE, ne_eq] at hb
         first | rw [if_pos hb91] at h | rw [if_neg (Bool.eq_false_iff.1 hb91)] at h | rw [if_pos hb] at h | rw [if_neg hb] at h | (simp only [hb, hT, reduceIte] at h) | skip
         refine AWp.skip ?_
         refine AWp.seq ?_
         refine AWp.region ?_
         refine L.Y Y.mv ?_
         refine L.Y Y.mv ?_
         refine L.Y Y.asg ?_
         refine L.Y Y.asg ?_
         refine AList.nil ?_
         simp only [Option.some.injEq, Prod.mk.injEq] at h
         obtain ⟨rfl, rfl, rfl, rfl⟩ := h
         refine AWp.ret ?_
         exact ⟨.inr rfl, [(2, _), (3, _)], _, ⟨rfl, rfl⟩, IsPart.at [] [0, 4] base1 (H.c (H.c .nil)) (E.c (E.c .nil))⟩
    ·
     have hb80 := hb
     try simp only [hS, hE, ne_eq] at hb
     first | rw [if_pos hb80] at h | rw [if_neg (Bool.eq_false_iff.1 hb80)] at h | rw [if_pos hb] at h | rw [if_neg hb] at h | (simp only [hb, hT, reduceIte] at h) | skip
     refine AWp.seq ?_
     refine W.kp [0, 2, 3, 4, 5, 6, 17, 30] ?_
     refine AWp.region ?_
     refine L.Y Y.asg ?_
     refine AList.nil ?_
     refine AWp.block ?_
     refine AWp.loopI (fun kk e H => kk ≤ k ∧ ∃ (x4 : Int) (x5 : List Int) (x7 : Int) (x1001 : Int) (x1002 : Int) (x249000 : Int) (x249001 : List Int), e = [(0, .ptr 0 0), (4, .lit (.int .i64 x4)), (5, .own 1 x5.length), (6, .ptr 2 0), (7, .lit (.int .i64 x7))] ∧ H = [.bx 82 [.row 1 s0_0.length false (ints .u8 s0_0), .lit (.int .i64 x1001), .lit (.int .u64 x1002)], .sl 3 1 x5.length false (ints .i64 x5), .bx 30 [.lit (.int .i64 x249000), .own 3 x249001.length], .sl 3 1 x249001.length false (ints .i64 x249001)] ∧ spec_l1Cur_chosen.l0 kk x4 x5 x7 s0_0 x1001 x1002 = some (r1, r2, r3, r4)) (k := k)
      ⟨_, _, ⟨Nat.le_refl _, _, _, _, _, _, _, _, rfl, rfl, h⟩, IsPart.at [(3, 1)] [0, 4, 3, 2] base1 (H.c (H.c (H.c (H.c .nil)))) (E.c (E.c (E.c (E.c (E.c .nil)))))⟩ ?_
     clear h
     rintro k93 e H ⟨hk94, x4, x5, x7, x1001, x1002, x249000, x249001, rfl, rfl, h⟩
     cases k93 with
     | zero => exact absurd h (by simp [spec_l1Cur_chosen.l0])
     | succ k93 =>
     simp only [spec_l1Cur_chosen.l0] at h
     repeat (first | (rw [iN] at h; obtain ⟨_, h⟩ := h) | (rw [iP] at h; obtain ⟨_, h⟩ := h) | (simp only [bS] at h))
     refine AWp.seq ?_
     refine AWp.seq ?_
     refine AWp.region ?_
     refine L.Y Y.mv ?_
     refine L.Y Y.mv ?_
     refine L.Y Y.bin ?_
     refine L.Y Y.bin ?_
     refine AList.nil ?_
     refine W.cond (fun hb => ?_) (fun hb => ?_)
     ·
      have hb95 := hb
      try simp only [hS, hE, ne_eq] at hb
      first | rw [if_pos hb95] at h | rw [if_neg (Bool.eq_false_iff.1 hb95)] at h | rw [if_pos hb] at h | rw [if_neg hb] at h | (simp only [hb, hT, reduceIte] at h) | skip
      refine AWp.skip ?_
      refine AWp.seq ?_
      refine AWp.block ?_
      refine AWp.seq ?_
      refine AWp.region ?_
      refine L.Y Y.mv ?_
      refine L.Y Y.mv ?_
      refine L.Y Y.mv ?_
      refine L.Y Y.bin ?_
      obtain ⟨⟨t266, t267, t268⟩, hc96, h⟩ := Option.bind_eq_some_iff.1 h
      dsimp only at h
      refine L.C (C.callE (l := false) [0] Tryd.func80 (spec_l1Cur_pick.ac _ _ _ _ _ _ _ hc96) (H.c .nil) ?_)
      refine L.Y Y.bin ?_
      refine L.Y Y.asg ?_
      refine AList.nil ?_
      refine AWp.seq ?_
      refine AWp.seq ?_
      refine W.kp [0, 4, 5, 6, 7, 8, 38] ?_
      refine AWp.region ?_
      refine L.Y Y.mv ?_
      refine L.Y Y.bin ?_
      refine AList.nil ?_
      refine W.cond (fun hb => ?_) (fun hb => ?_)
      ·
       have hb97 := hb
       try simp only [hS, hE, ne_eq] at hb
       first | rw [if_pos hb97] at h | rw [if_neg (Bool.eq_false_iff.1 hb97)] at h | rw [if_pos hb] at h | rw [if_neg hb] at h | (simp only [hb, hT, reduceIte] at h) | skip
       repeat (first | (rw [iN] at h; obtain ⟨_, h⟩ := h) | (rw [iP] at h; obtain ⟨_, h⟩ := h) | (simp only [bS] at h))
       refine AWp.region ?_
       refine L.Y Y.mv ?_
       refine L.Y Y.asg ?_
       refine AList.nil ?_
       refine AWp.region ?_
       refine L.Y Y.mv ?_
       refine L.Y Y.mv ?_
       refine L.M (M.bs Tryd.underlying22 Y3) ?_
       refine L.S (S.ap (nn' := false) Tryd.underlying22 Y3) ?_
       refine L.Y Y.asg ?_
       refine AList.nil ?_
       refine W.kp [0, 4, 5, 6, 7, 8, 38, 48] ?_
       refine AWp.region ?_
       refine L.Y Y.mv ?_
       refine L.Y Y.bin ?_
       refine L.Y Y.asg ?_
       refine AList.nil ?_
       exact ⟨k93, by omega, _, _, ⟨by omega, _, _, _, _, _, _, _, rfl, rfl, h⟩, IsPart.at [] [0, 1, 2, 3] base1 (H.c (H.c (H.c (H.c .nil)))) (E.c (E.c (E.c (E.c (E.c .nil)))))⟩
      ·
       have hb97 := hb
       try simp only [hS, hE, ne_eq] at hb
       first | rw [if_pos hb97] at h | rw [if_neg (Bool.eq_false_iff.1 hb97)] at h | rw [if_pos hb] at h | rw [if_neg hb] at h | (simp only [hb, hT, reduceIte] at h) | skip
       repeat (first | (rw [iN] at h; obtain ⟨_, h⟩ := h) | (rw [iP] at h; obtain ⟨_, h⟩ := h) | (simp only [bS] at h))
       refine AWp.skip ?_
       refine AWp.region ?_
       refine L.Y Y.mv ?_
       refine L.Y Y.mv ?_
       refine L.M (M.bs Tryd.underlying22 Y3) ?_
       refine L.S (S.ap (nn' := false) Tryd.underlying22 Y3) ?_
       refine L.Y Y.asg ?_
       refine AList.nil ?_
       refine W.kp [0, 4, 5, 6, 7, 8, 38, 48] ?_
       refine AWp.region ?_
       refine L.Y Y.mv ?_
       refine L.Y Y.bin ?_
       refine L.Y Y.asg ?_
       refine AList.nil ?_
       exact ⟨k93, by omega, _, _, ⟨by omega, _, _, _, _, _, _, _, rfl, rfl, h⟩, IsPart.at [] [0, 1, 2, 3] base1 (H.c (H.c (H.c (H.c .nil)))) (E.c (E.c (E.c (E.c (E.c .nil)))))⟩
     ·
      have hb95 := hb
      try simp only [hS, hE, ne_eq] at hb
      first | rw [if_pos hb95] at h | rw [if_neg (Bool.eq_false_iff.1 hb95)] at h | rw [if_pos hb] at h | rw [if_neg hb] at h | (simp only [hb, hT, reduceIte] at h) | skip
      refine AWp.exit ?_
      refine AWp.seq ?_
      refine AWp.seq ?_
      refine AWp.region ?_
      refine L.Y Y.mv ?_
      rcases k93 with _ | k93
      ·
       exact absurd h (by simp [spec_l1Cur_chosen.j3])
      simp only [spec_l1Cur_chosen.j3] at h
      obtain ⟨⟨t275, t276, t277⟩, hc98, h⟩ := Option.bind_eq_some_iff.1 h
      dsimp only at h
      refine L.C (C.callE (l := false) [0] Tryd.func80 (spec_l1Cur_pick.ac _ _ _ _ _ _ _ hc98) (H.c .nil) ?_)
      refine AList.nil ?_
      refine AWp.block ?_
      refine AWp.seq ?_
      refine W.kp [0, 4, 5, 6, 7, 38, 55] ?_
      refine AWp.region ?_
      refine L.Y Y.bin ?_
      refine L.Y Y.asg ?_
      refine AList.nil ?_
      refine W.cond (fun hb => ?_) (fun hb => ?_)
      ·
       have hb99 := hb
       try simp only [hS, hE, ne_eq] at hb
       first | rw [if_pos hb99] at h | rw [if_neg (Bool.eq_false_iff.1 hb99)] at h | rw [if_pos hb] at h | rw [if_neg hb] at h | (simp only [hb, hT, reduceIte] at h) | skip
       refine AWp.region ?_
       refine L.Y Y.mv ?_
       refine L.Y Y.mv ?_
       refine L.Y Y.mv ?_
       refine L.Y (Y.ln Tryd.underlying22) ?_
       obtain ⟨⟨t278, t279, t280⟩, hc100, h⟩ := Option.bind_eq_some_iff.1 h
       dsimp only at h
       repeat (first | (rw [iN] at h; obtain ⟨_, h⟩ := h) | (rw [iP] at h; obtain ⟨_, h⟩ := h) | (simp only [bS] at h))
       refine L.C (C.callE (l := false) [0] Tryd.func80 (spec_l1Cur_pick.ac _ _ _ _ _ _ _ hc100) (H.c .nil) ?_)
       refine L.Y Y.mv ?_
       refine L.M (M.bs Tryd.underlying22 Y3) ?_
       obtain ⟨⟨t284, t285, t286⟩, hc101, h⟩ := Option.bind_eq_some_iff.1 h
       dsimp only at h
       repeat (first | (rw [iN] at h; obtain ⟨_, h⟩ := h) | (rw [iP] at h; obtain ⟨_, h⟩ := h) | (simp only [bS] at h))
       refine L.C ?_
       refine C.frz 4 ?_
       refine C.callE (l := false) [0] Tryd.func81 (spec_l1Cur_among.ac _ _ _ _ _ _ _ hc101) (H.c .nil) ?_
       refine L.Y (Y.ixo Tryd.underlying22 Y3) ?_
       refine L.S (S.sts Y3) ?_
       refine AList.nil ?_
       refine AWp.seq ?_
       refine W.kp [0, 4, 5, 6, 7, 38, 55, 56] ?_
       refine AWp.region ?_
       refine L.Y Y.mv ?_
       refine L.Y Y.mv ?_
       refine L.Y Y.asg ?_
       refine L.Y Y.asg ?_
       refine AList.nil ?_
       simp only [Option.some.injEq, Prod.mk.injEq] at h
       obtain ⟨rfl, rfl, rfl, rfl⟩ := h
       refine AWp.ret ?_
       exact ⟨.inr rfl, [(2, _), (3, _)], _, ⟨rfl, rfl⟩, IsPart.at [] [0, 1] base1 (H.c (H.c .nil)) (E.c (E.c .nil))⟩
      ·
       have hb99 := hb
       try simp only [hS, hE, ne_eq] at hb
       first | rw [if_pos hb99] at h | rw [if_neg (Bool.eq_false_iff.1 hb99)] at h | rw [if_pos hb] at h | rw [if_neg hb] at h | (simp only [hb, hT, reduceIte] at h) | skip
       refine AWp.seq ?_
       refine AWp.region ?_
       refine L.Y Y.bin ?_
       refine L.Y Y.asg ?_
       refine AList.nil ?_
       refine W.cond (fun hb => ?_) (fun hb => ?_)
       ·
        have hb102 := hb
        try simp only [hS, hE, ne_eq] at hb
        first | rw [if_pos hb102] at h | rw [if_neg (Bool.eq_false_iff.1 hb102)] at h | rw [if_pos hb] at h | rw [if_neg hb] at h | (simp only [hb, hT, reduceIte] at h) | skip
        repeat (first | (rw [iN] at h; obtain ⟨_, h⟩ := h) | (rw [iP] at h; obtain ⟨_, h⟩ := h) | (simp only [bS] at h))
        refine AWp.region ?_
        refine L.Y Y.mv ?_
        refine L.Y Y.mv ?_
        refine L.Y Y.bin ?_
        refine L.M (M.bs Tryd.underlying22 Y3) ?_
        obtain ⟨⟨t291, t292, t293⟩, hc103, h⟩ := Option.bind_eq_some_iff.1 h
        dsimp only at h
        refine L.C ?_
        refine C.frz 4 ?_
        refine C.callE (l := false) [0] Tryd.func81 (spec_l1Cur_among.ac _ _ _ _ _ _ _ hc103) (H.c .nil) ?_
        refine L.Y Y.asg ?_
        refine AList.nil ?_
        refine AWp.seq ?_
        refine W.kp [0, 4, 5, 6, 7, 38, 55, 56, 67] ?_
        refine AWp.region ?_
        refine L.Y Y.mv ?_
        refine L.Y Y.mv ?_
        refine L.Y Y.asg ?_
        refine L.Y Y.asg ?_
        refine AList.nil ?_
        simp only [Option.some.injEq, Prod.mk.injEq] at h
        obtain ⟨rfl, rfl, rfl, rfl⟩ := h
        refine AWp.ret ?_
        exact ⟨.inr rfl, [(2, _), (3, _)], _, ⟨rfl, rfl⟩, IsPart.at [] [0, 1] base1 (H.c (H.c .nil)) (E.c (E.c .nil))⟩
       ·
        have hb102 := hb
        try simp only [hS, hE, ne_eq] at hb
        first | rw [if_pos hb102] at h | rw [if_neg (Bool.eq_false_iff.1 hb102)] at h | rw [if_pos hb] at h | rw [if_neg hb] at h | (simp only [hb, hT, reduceIte] at h) | skip
        refine AWp.seq ?_
        refine AWp.seq ?_
        refine AWp.region ?_
        refine L.Y Y.bin ?_
        refine L.Y Y.asg ?_
        refine AList.nil ?_
        refine W.cond (fun hb => ?_) (fun hb => ?_)
        ·
         have hb104 := hb
         try simp only [hS, hE, ne_eq] at hb
         first | rw [if_pos hb104] at h | rw [if_neg (Bool.eq_false_iff.1 hb104)] at h | rw [if_pos hb] at h | rw [if_neg hb] at h | (simp only [hb, hT, reduceIte] at h) | skip
         refine AWp.skip ?_
         refine W.cond (fun hb => ?_) (fun hb => ?_)
         rotate_left
         ·
          exact DD hb
         have hb105 := hb
         refine AWp.seq ?_
         refine AWp.region ?_
         refine L.Y Y.mv ?_
         refine L.Y Y.mv ?_
         refine L.Y (Y.ln Tryd.underlying22) ?_
         obtain ⟨⟨t294, t295, t296⟩, hc106, h⟩ := Option.bind_eq_some_iff.1 h
         dsimp only at h
         repeat (first | (rw [iN] at h; obtain ⟨_, h⟩ := h) | (rw [iP] at h; obtain ⟨_, h⟩ := h) | (simp only [bS] at h))
         refine L.C (C.callE (l := false) [0] Tryd.func80 (spec_l1Cur_pick.ac _ _ _ _ _ _ _ hc106) (H.c .nil) ?_)
         refine L.Y Y.asg ?_
         refine AList.nil ?_
         refine W.kp [0, 4, 5, 6, 7, 9, 38, 55, 56, 67, 74] ?_
         refine AWp.region ?_
         refine L.Y Y.mv ?_
         refine L.Y Y.mv ?_
         refine L.Y Y.mv ?_
         refine L.Y (Y.ixo Tryd.underlying22 Y3) ?_
         refine L.S (S.sts Y3) ?_
         refine AList.nil ?_
         refine AWp.seq ?_
         refine W.kp [0, 4, 5, 6, 7, 9, 38, 55, 56, 67, 74] ?_
         refine AWp.region ?_
         refine L.Y Y.mv ?_
         refine L.Y Y.mv ?_
         refine L.Y Y.asg ?_
         refine L.Y Y.asg ?_
         refine AList.nil ?_
         simp only [Option.some.injEq, Prod.mk.injEq] at h
         obtain ⟨rfl, rfl, rfl, rfl⟩ := h
         refine AWp.ret ?_
         exact ⟨.inr rfl, [(2, _), (3, _)], _, ⟨rfl, rfl⟩, IsPart.at [] [0, 1] base1 (H.c (H.c .nil)) (E.c (E.c .nil))⟩
        ·
         have hb104 := hb
         try simp only [hS, hE, ne_eq] at hb
         first | rw [if_pos hb104] at h | rw [if_neg (Bool.eq_false_iff.1 hb104)] at h | rw [if_pos hb] at h | rw [if_neg hb] at h | (simp only [hb, hT, reduceIte] at h) | skip
         refine AWp.region ?_
         refine L.Y Y.bin ?_
         refine L.Y Y.asg ?_
         refine AList.nil ?_
         refine W.cond (fun hb => ?_) (fun hb => ?_)
         ·
          have hb107 := hb
          try simp only [hS, hE, ne_eq] at hb
          first | rw [if_pos hb107] at h | rw [if_neg (Bool.eq_false_iff.1 hb107)] at h | rw [if_pos hb] at h | rw [if_neg hb] at h | (simp only [hb, hT, reduceIte] at h) | skip
          refine AWp.seq ?_
          refine W.kp [0, 4, 5, 6, 7, 38, 55, 56, 67, 74] ?_
          refine AWp.region ?_
          refine L.Y Y.mv ?_
          refine L.Y Y.mv ?_
          refine L.Y (Y.ln Tryd.underlying22) ?_
          obtain ⟨⟨t298, t299, t300⟩, hc108, h⟩ := Option.bind_eq_some_iff.1 h
          dsimp only at h
          repeat (first | (rw [iN] at h; obtain ⟨_, h⟩ := h) | (rw [iP] at h; obtain ⟨_, h⟩ := h) | (simp only [bS] at h))
          refine L.C (C.callE (l := false) [0] Tryd.func80 (spec_l1Cur_pick.ac _ _ _ _ _ _ _ hc108) (H.c .nil) ?_)
          refine L.Y Y.asg ?_
          refine AList.nil ?_
          refine W.kp [0, 4, 5, 6, 7, 9, 38, 55, 56, 67, 74] ?_
          refine AWp.region ?_
          refine L.Y Y.mv ?_
          refine L.Y Y.mv ?_
          refine L.Y Y.mv ?_
          refine L.Y (Y.ixo Tryd.underlying22 Y3) ?_
          refine L.S (S.sts Y3) ?_
          refine AList.nil ?_
          refine AWp.seq ?_
          refine W.kp [0, 4, 5, 6, 7, 9, 38, 55, 56, 67, 74] ?_
          refine AWp.region ?_
          refine L.Y Y.mv ?_
          refine L.Y Y.mv ?_
          refine L.Y Y.asg ?_
          refine L.Y Y.asg ?_
          refine AList.nil ?_
          simp only [Option.some.injEq, Prod.mk.injEq] at h
          obtain ⟨rfl, rfl, rfl, rfl⟩ := h
          refine AWp.ret ?_
          exact ⟨.inr rfl, [(2, _), (3, _)], _, ⟨rfl, rfl⟩, IsPart.at [] [0, 1] base1 (H.c (H.c .nil)) (E.c (E.c .nil))⟩
         ·
          have hb107 := hb
          try simp only [hS, hE, ne_eq] at hb
          first | rw [if_pos hb107] at h | rw [if_neg (Bool.eq_false_iff.1 hb107)] at h | rw [if_pos hb] at h | rw [if_neg hb] at h | (simp only [hb, hT, reduceIte] at h) | skip
          refine AWp.skip ?_
          refine AWp.seq ?_
          refine W.kp [0, 4, 5, 6, 7, 38, 55, 56, 67, 74] ?_
          refine AWp.region ?_
          refine L.Y Y.mv ?_
          refine L.Y Y.mv ?_
          refine L.Y Y.asg ?_
          refine L.Y Y.asg ?_
          refine AList.nil ?_
          simp only [Option.some.injEq, Prod.mk.injEq] at h
          obtain ⟨rfl, rfl, rfl, rfl⟩ := h
          refine AWp.ret ?_
          exact ⟨.inr rfl, [(2, _), (3, _)], _, ⟨rfl, rfl⟩, IsPart.at [] [0, 1] base1 (H.c (H.c .nil)) (E.c (E.c .nil))⟩
   ·
    have hb78 := hb
    try simp only [hS, hE, ne_eq] at hb
    first | rw [if_pos hb78] at h | rw [if_neg (Bool.eq_false_iff.1 hb78)] at h | rw [if_pos hb] at h | rw [if_neg hb] at h | (simp only [hb, hT, reduceIte] at h) | skip
    refine L.Gn hb78 ?_
    refine L.Gn hb78 ?_
    refine L.Y (Y.pk (c := false) hb78) ?_
    refine AList.nil ?_
    rcases k with _ | k
    ·
     exact absurd h (by simp [spec_l1Cur_chosen.j1])
    simp only [spec_l1Cur_chosen.j1] at h
    refine W.cond (fun hb => ?_) (fun hb => ?_)
    ·
     exact DD hb
    have hb109 := hb
    try (first | rw [if_pos hb109] at h | rw [if_neg (Bool.eq_false_iff.1 hb109)] at h | rw [if_pos hb] at h | rw [if_neg hb] at h | (simp only [hb, hT, reduceIte] at h) | skip)
    refine AWp.seq ?_
    refine W.kp [0, 2, 3, 4, 5, 6, 17, 30] ?_
    refine AWp.region ?_
    refine L.Y Y.asg ?_
    refine AList.nil ?_
    refine AWp.block ?_
    refine AWp.loopI (fun kk e H => kk ≤ k ∧ ∃ (x4 : Int) (x5 : List Int) (x7 : Int) (x1001 : Int) (x1002 : Int) (x249000 : Int) (x249001 : List Int), e = [(0, .ptr 0 0), (4, .lit (.int .i64 x4)), (5, .own 1 x5.length), (6, .ptr 2 0), (7, .lit (.int .i64 x7))] ∧ H = [.bx 82 [.row 1 s0_0.length false (ints .u8 s0_0), .lit (.int .i64 x1001), .lit (.int .u64 x1002)], .sl 3 1 x5.length false (ints .i64 x5), .bx 30 [.lit (.int .i64 x249000), .own 3 x249001.length], .sl 3 1 x249001.length false (ints .i64 x249001)] ∧ spec_l1Cur_chosen.l0 kk x4 x5 x7 s0_0 x1001 x1002 = some (r1, r2, r3, r4)) (k := k)
     ⟨_, _, ⟨Nat.le_refl _, _, _, _, _, _, _, _, rfl, rfl, h⟩, IsPart.at [(3, 1)] [0, 4, 3, 2] base1 (H.c (H.c (H.c (H.c .nil)))) (E.c (E.c (E.c (E.c (E.c .nil)))))⟩ ?_
    clear h
    rintro k110 e H ⟨hk111, x4, x5, x7, x1001, x1002, x249000, x249001, rfl, rfl, h⟩
    cases k110 with
    | zero => exact absurd h (by simp [spec_l1Cur_chosen.l0])
    | succ k110 =>
    simp only [spec_l1Cur_chosen.l0] at h
    repeat (first | (rw [iN] at h; obtain ⟨_, h⟩ := h) | (rw [iP] at h; obtain ⟨_, h⟩ := h) | (simp only [bS] at h))
    refine AWp.seq ?_
    refine AWp.seq ?_
    refine AWp.region ?_
    refine L.Y Y.mv ?_
    refine L.Y Y.mv ?_
    refine L.Y Y.bin ?_
    refine L.Y Y.bin ?_
    refine AList.nil ?_
    refine W.cond (fun hb => ?_) (fun hb => ?_)
    ·
     have hb112 := hb
     try simp only [hS, hE, ne_eq] at hb
     first | rw [if_pos hb112] at h | rw [if_neg (Bool.eq_false_iff.1 hb112)] at h | rw [if_pos hb] at h | rw [if_neg hb] at h | (simp only [hb, hT, reduceIte] at h) | skip
     refine AWp.skip ?_
     refine AWp.seq ?_
     refine AWp.block ?_
     refine AWp.seq ?_
     refine AWp.region ?_
     refine L.Y Y.mv ?_
     refine L.Y Y.mv ?_
     refine L.Y Y.mv ?_
     refine L.Y Y.bin ?_
     obtain ⟨⟨t266, t267, t268⟩, hc113, h⟩ := Option.bind_eq_some_iff.1 h
     dsimp only at h
     refine L.C (C.callE (l := false) [0] Tryd.func80 (spec_l1Cur_pick.ac _ _ _ _ _ _ _ hc113) (H.c .nil) ?_)
     refine L.Y Y.bin ?_
     refine L.Y Y.asg ?_
     refine AList.nil ?_
     refine AWp.seq ?_
     refine AWp.seq ?_
     refine W.kp [0, 4, 5, 6, 7, 8, 38] ?_
     refine AWp.region ?_
     refine L.Y Y.mv ?_
     refine L.Y Y.bin ?_
     refine AList.nil ?_
     refine W.cond (fun hb => ?_) (fun hb => ?_)
     ·
      have hb114 := hb
      try simp only [hS, hE, ne_eq] at hb
      first | rw [if_pos hb114] at h | rw [if_neg (Bool.eq_false_iff.1 hb114)] at h | rw [if_pos hb] at h | rw [if_neg hb] at h | (simp only [hb, hT, reduceIte] at h) | skip
      repeat (first | (rw [iN] at h; obtain ⟨_, h⟩ := h) | (rw [iP] at h; obtain ⟨_, h⟩ := h) | (simp only [bS] at h))
      refine AWp.region ?_
      refine L.Y Y.mv ?_
      refine L.Y Y.asg ?_
      refine AList.nil ?_
      refine AWp.region ?_
      refine L.Y Y.mv ?_
      refine L.Y Y.mv ?_
      refine L.M (M.bs Tryd.underlying22 Y3) ?_
      refine L.S (S.ap (nn' := false) Tryd.underlying22 Y3) ?_
      refine L.Y Y.asg ?_
      refine AList.nil ?_
      refine W.kp [0, 4, 5, 6, 7, 8, 38, 48] ?_
      refine AWp.region ?_
      refine L.Y Y.mv ?_
      refine L.Y Y.bin ?_
      refine L.Y Y.asg ?_
      refine AList.nil ?_
      exact ⟨k110, by omega, _, _, ⟨by omega, _, _, _, _, _, _, _, rfl, rfl, h⟩, IsPart.at [] [0, 1, 2, 3] base1 (H.c (H.c (H.c (H.c .nil)))) (E.c (E.c (E.c (E.c (E.c .nil)))))⟩
     ·
      have hb114 := hb
      try simp only [hS, hE, ne_eq] at hb
      first | rw [if_pos hb114] at h | rw [if_neg (Bool.eq_false_iff.1 hb114)] at h | rw [if_pos hb] at h | rw [if_neg hb] at h | (simp only [hb, hT, reduceIte] at h) | skip
      repeat (first | (rw [iN] at h; obtain ⟨_, h⟩ := h) | (rw [iP] at h; obtain ⟨_, h⟩ := h) | (simp only [bS] at h))
      refine AWp.skip ?_
      refine AWp.region ?_
      refine L.Y Y.mv ?_
      refine L.Y Y.mv ?_
      refine L.M (M.bs Tryd.underlying22 Y3) ?_
      refine L.S (S.ap (nn' := false) Tryd.underlying22 Y3) ?_
      refine L.Y Y.asg ?_
      refine AList.nil ?_
      refine W.kp [0, 4, 5, 6, 7, 8, 38, 48] ?_
      refine AWp.region ?_
      refine L.Y Y.mv ?_
      refine L.Y Y.bin ?_
      refine L.Y Y.asg ?_
      refine AList.nil ?_
      exact ⟨k110, by omega, _, _, ⟨by omega, _, _, _, _, _, _, _, rfl, rfl, h⟩, IsPart.at [] [0, 1, 2, 3] base1 (H.c (H.c (H.c (H.c .nil)))) (E.c (E.c (E.c (E.c (E.c .nil)))))⟩
    ·
     have hb112 := hb
     try simp only [hS, hE, ne_eq] at hb
     first | rw [if_pos hb112] at h | rw [if_neg (Bool.eq_false_iff.1 hb112)] at h | rw [if_pos hb] at h | rw [if_neg hb] at h | (simp only [hb, hT, reduceIte] at h) | skip
     refine AWp.exit ?_
     refine AWp.seq ?_
     refine AWp.seq ?_
     refine AWp.region ?_
     refine L.Y Y.mv ?_
     rcases k110 with _ | k110
     ·
      exact absurd h (by simp [spec_l1Cur_chosen.j3])
     simp only [spec_l1Cur_chosen.j3] at h
     obtain ⟨⟨t275, t276, t277⟩, hc115, h⟩ := Option.bind_eq_some_iff.1 h
     dsimp only at h
     refine L.C (C.callE (l := false) [0] Tryd.func80 (spec_l1Cur_pick.ac _ _ _ _ _ _ _ hc115) (H.c .nil) ?_)
     refine AList.nil ?_
     refine AWp.block ?_
     refine AWp.seq ?_
     refine W.kp [0, 4, 5, 6, 7, 38, 55] ?_
     refine AWp.region ?_
     refine L.Y Y.bin ?_
     refine L.Y Y.asg ?_
     refine AList.nil ?_
     refine W.cond (fun hb => ?_) (fun hb => ?_)
     ·
      have hb116 := hb
      try simp only [hS, hE, ne_eq] at hb
      first | rw [if_pos hb116] at h | rw [if_neg (Bool.eq_false_iff.1 hb116)] at h | rw [if_pos hb] at h | rw [if_neg hb] at h | (simp only [hb, hT, reduceIte] at h) | skip
      refine AWp.region ?_
      refine L.Y Y.mv ?_
      refine L.Y Y.mv ?_
      refine L.Y Y.mv ?_
      refine L.Y (Y.ln Tryd.underlying22) ?_
      obtain ⟨⟨t278, t279, t280⟩, hc117, h⟩ := Option.bind_eq_some_iff.1 h
      dsimp only at h
      repeat (first | (rw [iN] at h; obtain ⟨_, h⟩ := h) | (rw [iP] at h; obtain ⟨_, h⟩ := h) | (simp only [bS] at h))
      refine L.C (C.callE (l := false) [0] Tryd.func80 (spec_l1Cur_pick.ac _ _ _ _ _ _ _ hc117) (H.c .nil) ?_)
      refine L.Y Y.mv ?_
      refine L.M (M.bs Tryd.underlying22 Y3) ?_
      obtain ⟨⟨t284, t285, t286⟩, hc118, h⟩ := Option.bind_eq_some_iff.1 h
      dsimp only at h
      repeat (first | (rw [iN] at h; obtain ⟨_, h⟩ := h) | (rw [iP] at h; obtain ⟨_, h⟩ := h) | (simp only [bS] at h))
      refine L.C ?_
      refine C.frz 4 ?_
      refine C.callE (l := false) [0] Tryd.func81 (spec_l1Cur_among.ac _ _ _ _ _ _ _ hc118) (H.c .nil) ?_
      refine L.Y (Y.ixo Tryd.underlying22 Y3) ?_
      refine L.S (S.sts Y3) ?_
      refine AList.nil ?_
      refine AWp.seq ?_
      refine W.kp [0, 4, 5, 6, 7, 38, 55, 56] ?_
      refine AWp.region ?_
      refine L.Y Y.mv ?_
      refine L.Y Y.mv ?_
      refine L.Y Y.asg ?_
      refine L.Y Y.asg ?_
      refine AList.nil ?_
      simp only [Option.some.injEq, Prod.mk.injEq] at h
      obtain ⟨rfl, rfl, rfl, rfl⟩ := h
      refine AWp.ret ?_
      exact ⟨.inr rfl, [(2, _), (3, _)], _, ⟨rfl, rfl⟩, IsPart.at [] [0, 1] base1 (H.c (H.c .nil)) (E.c (E.c .nil))⟩
     ·
      have hb116 := hb
      try simp only [hS, hE, ne_eq] at hb
      first | rw [if_pos hb116] at h | rw [if_neg (Bool.eq_false_iff.1 hb116)] at h | rw [if_pos hb] at h | rw [if_neg hb] at h | (simp only [hb, hT, reduceIte] at h) | skip
      refine AWp.seq ?_
      refine AWp.region ?_
      refine L.Y Y.bin ?_
      refine L.Y Y.asg ?_
      refine AList.nil ?_
      refine W.cond (fun hb => ?_) (fun hb => ?_)
      ·
       have hb119 := hb
       try simp only [hS, hE, ne_eq] at hb
       first | rw [if_pos hb119] at h | rw [if_neg (Bool.eq_false_iff.1 hb119)] at h | rw [if_pos hb] at h | rw [if_neg hb] at h | (simp only [hb, hT, reduceIte] at h) | skip
       repeat (first | (rw [iN] at h; obtain ⟨_, h⟩ := h) | (rw [iP] at h; obtain ⟨_, h⟩ := h) | (simp only [bS] at h))
       refine AWp.region ?_
       refine L.Y Y.mv ?_
       refine L.Y Y.mv ?_
       refine L.Y Y.bin ?_
       refine L.M (M.bs Tryd.underlying22 Y3) ?_
       obtain ⟨⟨t291, t292, t293⟩, hc120, h⟩ := Option.bind_eq_some_iff.1 h
       dsimp only at h
       refine L.C ?_
       refine C.frz 4 ?_
       refine C.callE (l := false) [0] Tryd.func81 (spec_l1Cur_among.ac _ _ _ _ _ _ _ hc120) (H.c .nil) ?_
       refine L.Y Y.asg ?_
       refine AList.nil ?_
       refine AWp.seq ?_
       refine W.kp [0, 4, 5, 6, 7, 38, 55, 56, 67] ?_
       refine AWp.region ?_
       refine L.Y Y.mv ?_
       refine L.Y Y.mv ?_
       refine L.Y Y.asg ?_
       refine L.Y Y.asg ?_
       refine AList.nil ?_
       simp only [Option.some.injEq, Prod.mk.injEq] at h
       obtain ⟨rfl, rfl, rfl, rfl⟩ := h
       refine AWp.ret ?_
       exact ⟨.inr rfl, [(2, _), (3, _)], _, ⟨rfl, rfl⟩, IsPart.at [] [0, 1] base1 (H.c (H.c .nil)) (E.c (E.c .nil))⟩
      ·
       have hb119 := hb
       try simp only [hS, hE, ne_eq] at hb
       first | rw [if_pos hb119] at h | rw [if_neg (Bool.eq_false_iff.1 hb119)] at h | rw [if_pos hb] at h | rw [if_neg hb] at h | (simp only [hb, hT, reduceIte] at h) | skip
       refine AWp.seq ?_
       refine AWp.seq ?_
       refine AWp.region ?_
       refine L.Y Y.bin ?_
       refine L.Y Y.asg ?_
       refine AList.nil ?_
       refine W.cond (fun hb => ?_) (fun hb => ?_)
       ·
        have hb121 := hb
        try simp only [hS, hE, ne_eq] at hb
        first | rw [if_pos hb121] at h | rw [if_neg (Bool.eq_false_iff.1 hb121)] at h | rw [if_pos hb] at h | rw [if_neg hb] at h | (simp only [hb, hT, reduceIte] at h) | skip
        refine AWp.skip ?_
        refine W.cond (fun hb => ?_) (fun hb => ?_)
        rotate_left
        ·
         exact DD hb
        have hb122 := hb
        refine AWp.seq ?_
        refine AWp.region ?_
        refine L.Y Y.mv ?_
        refine L.Y Y.mv ?_
        refine L.Y (Y.ln Tryd.underlying22) ?_
        obtain ⟨⟨t294, t295, t296⟩, hc123, h⟩ := Option.bind_eq_some_iff.1 h
        dsimp only at h
        repeat (first | (rw [iN] at h; obtain ⟨_, h⟩ := h) | (rw [iP] at h; obtain ⟨_, h⟩ := h) | (simp only [bS] at h))
        refine L.C (C.callE (l := false) [0] Tryd.func80 (spec_l1Cur_pick.ac _ _ _ _ _ _ _ hc123) (H.c .nil) ?_)
        refine L.Y Y.asg ?_
        refine AList.nil ?_
        refine W.kp [0, 4, 5, 6, 7, 9, 38, 55, 56, 67, 74] ?_
        refine AWp.region ?_
        refine L.Y Y.mv ?_
        refine L.Y Y.mv ?_
        refine L.Y Y.mv ?_
        refine L.Y (Y.ixo Tryd.underlying22 Y3) ?_
        refine L.S (S.sts Y3) ?_
        refine AList.nil ?_
        refine AWp.seq ?_
        refine W.kp [0, 4, 5, 6, 7, 9, 38, 55, 56, 67, 74] ?_
        refine AWp.region ?_
        refine L.Y Y.mv ?_
        refine L.Y Y.mv ?_
        refine L.Y Y.asg ?_
        refine L.Y Y.asg ?_
        refine AList.nil ?_
        simp only [Option.some.injEq, Prod.mk.injEq] at h
        obtain ⟨rfl, rfl, rfl, rfl⟩ := h
        refine AWp.ret ?_
        exact ⟨.inr rfl, [(2, _), (3, _)], _, ⟨rfl, rfl⟩, IsPart.at [] [0, 1] base1 (H.c (H.c .nil)) (E.c (E.c .nil))⟩
       ·
        have hb121 := hb
        try simp only [hS, hE, ne_eq] at hb
        first | rw [if_pos hb121] at h | rw [if_neg (Bool.eq_false_iff.1 hb121)] at h | rw [if_pos hb] at h | rw [if_neg hb] at h | (simp only [hb, hT, reduceIte] at h) | skip
        refine AWp.region ?_
        refine L.Y Y.bin ?_
        refine L.Y Y.asg ?_
        refine AList.nil ?_
        refine W.cond (fun hb => ?_) (fun hb => ?_)
        ·
         have hb124 := hb
         try simp only [hS, hE, ne_eq] at hb
         first | rw [if_pos hb124] at h | rw [if_neg (Bool.eq_false_iff.1 hb124)] at h | rw [if_pos hb] at h | rw [if_neg hb] at h | (simp only [hb, hT, reduceIte] at h) | skip
         refine AWp.seq ?_
         refine W.kp [0, 4, 5, 6, 7, 38, 55, 56, 67, 74] ?_
         refine AWp.region ?_
         refine L.Y Y.mv ?_
         refine L.Y Y.mv ?_
         refine L.Y (Y.ln Tryd.underlying22) ?_
         obtain ⟨⟨t298, t299, t300⟩, hc125, h⟩ := Option.bind_eq_some_iff.1 h
         dsimp only at h
         repeat (first | (rw [iN] at h; obtain ⟨_, h⟩ := h) | (rw [iP] at h; obtain ⟨_, h⟩ := h) | (simp only [bS] at h))
         refine L.C (C.callE (l := false) [0] Tryd.func80 (spec_l1Cur_pick.ac _ _ _ _ _ _ _ hc125) (H.c .nil) ?_)
         refine L.Y Y.asg ?_
         refine AList.nil ?_
         refine W.kp [0, 4, 5, 6, 7, 9, 38, 55, 56, 67, 74] ?_
         refine AWp.region ?_
         refine L.Y Y.mv ?_
         refine L.Y Y.mv ?_
         refine L.Y Y.mv ?_
         refine L.Y (Y.ixo Tryd.underlying22 Y3) ?_
         refine L.S (S.sts Y3) ?_
         refine AList.nil ?_
         refine AWp.seq ?_
         refine W.kp [0, 4, 5, 6, 7, 9, 38, 55, 56, 67, 74] ?_
         refine AWp.region ?_
         refine L.Y Y.mv ?_
         refine L.Y Y.mv ?_
         refine L.Y Y.asg ?_
         refine L.Y Y.asg ?_
         refine AList.nil ?_
         simp only [Option.some.injEq, Prod.mk.injEq] at h
         obtain ⟨rfl, rfl, rfl, rfl⟩ := h
         refine AWp.ret ?_
         exact ⟨.inr rfl, [(2, _), (3, _)], _, ⟨rfl, rfl⟩, IsPart.at [] [0, 1] base1 (H.c (H.c .nil)) (E.c (E.c .nil))⟩
        ·
         have hb124 := hb
         try simp only [hS, hE, ne_eq] at hb
         first | rw [if_pos hb124] at h | rw [if_neg (Bool.eq_false_iff.1 hb124)] at h | rw [if_pos hb] at h | rw [if_neg hb] at h | (simp only [hb, hT, reduceIte] at h) | skip
         refine AWp.skip ?_
         refine AWp.seq ?_
         refine W.kp [0, 4, 5, 6, 7, 38, 55, 56, 67, 74] ?_
         refine AWp.region ?_
         refine L.Y Y.mv ?_
         refine L.Y Y.mv ?_
         refine L.Y Y.asg ?_
         refine L.Y Y.asg ?_
         refine AList.nil ?_
         simp only [Option.some.injEq, Prod.mk.injEq] at h
         obtain ⟨rfl, rfl, rfl, rfl⟩ := h
         refine AWp.ret ?_
         exact ⟨.inr rfl, [(2, _), (3, _)], _, ⟨rfl, rfl⟩, IsPart.at [] [0, 1] base1 (H.c (H.c .nil)) (E.c (E.c .nil))⟩
  ·
   have hb76 := hb
   try simp only [hS, hE, ne_eq] at hb
   first | rw [if_pos hb76] at h | rw [if_neg (Bool.eq_false_iff.1 hb76)] at h | rw [if_pos hb] at h | rw [if_neg hb] at h | (simp only [hb, hT, reduceIte] at h) | skip
   refine L.Gn hb76 ?_
   refine L.Gn hb76 ?_
   refine L.Y (Y.pk (c := false) hb76) ?_
   refine L.Y Y.mv ?_
   refine L.Gc (fun hb => ?_) (fun hb => ?_)
   ·
    exact DD hb
   have hb126 := hb
   refine L.Gn hb126 ?_
   refine L.Gn hb126 ?_
   refine L.Y (Y.pk (c := false) hb126) ?_
   refine AList.nil ?_
   rcases k with _ | k
   ·
    exact absurd h (by simp [spec_l1Cur_chosen.j1])
   simp only [spec_l1Cur_chosen.j1] at h
   refine W.cond (fun hb => ?_) (fun hb => ?_)
   ·
    exact DD hb
   have hb127 := hb
   try (first | rw [if_pos hb127] at h | rw [if_neg (Bool.eq_false_iff.1 hb127)] at h | rw [if_pos hb] at h | rw [if_neg hb] at h | (simp only [hb, hT, reduceIte] at h) | skip)
   refine AWp.seq ?_
   refine W.kp [0, 2, 3, 4, 5, 6, 17, 30] ?_
   refine AWp.region ?_
   refine L.Y Y.asg ?_
   refine AList.nil ?_
   refine AWp.block ?_
   refine AWp.loopI (fun kk e H => kk ≤ k ∧ ∃ (x4 : Int) (x5 : List Int) (x7 : Int) (x1001 : Int) (x1002 : Int) (x249000 : Int) (x249001 : List Int), e = [(0, .ptr 0 0), (4, .lit (.int .i64 x4)), (5, .own 1 x5.length), (6, .ptr 2 0), (7, .lit (.int .i64 x7))] ∧ H = [.bx 82 [.row 1 s0_0.length false (ints .u8 s0_0), .lit (.int .i64 x1001), .lit (.int .u64 x1002)], .sl 3 1 x5.length false (ints .i64 x5), .bx 30 [.lit (.int .i64 x249000), .own 3 x249001.length], .sl 3 1 x249001.length false (ints .i64 x249001)] ∧ spec_l1Cur_chosen.l0 kk x4 x5 x7 s0_0 x1001 x1002 = some (r1, r2, r3, r4)) (k := k)
    ⟨_, _, ⟨Nat.le_refl _, _, _, _, _, _, _, _, rfl, rfl, h⟩, IsPart.at [(3, 1)] [0, 4, 3, 2] base1 (H.c (H.c (H.c (H.c .nil)))) (E.c (E.c (E.c (E.c (E.c .nil)))))⟩ ?_
   clear h
   rintro k128 e H ⟨hk129, x4, x5, x7, x1001, x1002, x249000, x249001, rfl, rfl, h⟩
   cases k128 with
   | zero => exact absurd h (by simp [spec_l1Cur_chosen.l0])
   | succ k128 =>
   simp only [spec_l1Cur_chosen.l0] at h
   repeat (first | (rw [iN] at h; obtain ⟨_, h⟩ := h) | (rw [iP] at h; obtain ⟨_, h⟩ := h) | (simp only [bS] at h))
   refine AWp.seq ?_
   refine AWp.seq ?_
   refine AWp.region ?_
   refine L.Y Y.mv ?_
   refine L.Y Y.mv ?_
   refine L.Y Y.bin ?_
   refine L.Y Y.bin ?_
   refine AList.nil ?_
   refine W.cond (fun hb => ?_) (fun hb => ?_)
   ·
    have hb130 := hb
    try simp only [hS, hE, ne_eq] at hb
    first | rw [if_pos hb130] at h | rw [if_neg (Bool.eq_false_iff.1 hb130)] at h | rw [if_pos hb] at h | rw [if_neg hb] at h | (simp only [hb, hT, reduceIte] at h) | skip
    refine AWp.skip ?_
    refine AWp.seq ?_
    refine AWp.block ?_
    refine AWp.seq ?_
    refine AWp.region ?_
    refine L.Y Y.mv ?_
    refine L.Y Y.mv ?_
    refine L.Y Y.mv ?_
    refine L.Y Y.bin ?_
    obtain ⟨⟨t266, t267, t268⟩, hc131, h⟩ := Option.bind_eq_some_iff.1 h
    dsimp only at h
    refine L.C (C.callE (l := false) [0] Tryd.func80 (spec_l1Cur_pick.ac _ _ _ _ _ _ _ hc131) (H.c .nil) ?_)
    refine L.Y Y.bin ?_
    refine L.Y Y.asg ?_
    refine AList.nil ?_
    refine AWp.seq ?_
    refine AWp.seq ?_
    refine W.kp [0, 4, 5, 6, 7, 8, 38] ?_
    refine AWp.region ?_
    refine L.Y Y.mv ?_
    refine L.Y Y.bin ?_
    refine AList.nil ?_
    refine W.cond (fun hb => ?_) (fun hb => ?_)
    ·
     have hb132 := hb
     try simp only [hS, hE, ne_eq] at hb
     first | rw [if_pos hb132] at h | rw [if_neg (Bool.eq_false_iff.1 hb132)] at h | rw [if_pos hb] at h | rw [if_neg hb] at h | (simp only [hb, hT, reduceIte] at h) | skip
     repeat (first | (rw [iN] at h; obtain ⟨_, h⟩ := h) | (rw [iP] at h; obtain ⟨_, h⟩ := h) | (simp only [bS] at h))
     refine AWp.region ?_
     refine L.Y Y.mv ?_
     refine L.Y Y.asg ?_
     refine AList.nil ?_
     refine AWp.region ?_
     refine L.Y Y.mv ?_
     refine L.Y Y.mv ?_
     refine L.M (M.bs Tryd.underlying22 Y3) ?_
     refine L.S (S.ap (nn' := false) Tryd.underlying22 Y3) ?_
     refine L.Y Y.asg ?_
     refine AList.nil ?_
     refine W.kp [0, 4, 5, 6, 7, 8, 38, 48] ?_
     refine AWp.region ?_
     refine L.Y Y.mv ?_
     refine L.Y Y.bin ?_
     refine L.Y Y.asg ?_
     refine AList.nil ?_
     exact ⟨k128, by omega, _, _, ⟨by omega, _, _, _, _, _, _, _, rfl, rfl, h⟩, IsPart.at [] [0, 1, 2, 3] base1 (H.c (H.c (H.c (H.c .nil)))) (E.c (E.c (E.c (E.c (E.c .nil)))))⟩
    ·
     have hb132 := hb
     try simp only [hS, hE, ne_eq] at hb
     first | rw [if_pos hb132] at h | rw [if_neg (Bool.eq_false_iff.1 hb132)] at h | rw [if_pos hb] at h | rw [if_neg hb] at h | (simp only [hb, hT, reduceIte] at h) | skip
     repeat (first | (rw [iN] at h; obtain ⟨_, h⟩ := h) | (rw [iP] at h; obtain ⟨_, h⟩ := h) | (simp only [bS] at h))
     refine AWp.skip ?_
     refine AWp.region ?_
     refine L.Y Y.mv ?_
     refine L.Y Y.mv ?_
     refine L.M (M.bs Tryd.underlying22 Y3) ?_
     refine L.S (S.ap (nn' := false) Tryd.underlying22 Y3) ?_
     refine L.Y Y.asg ?_
     refine AList.nil ?_
     refine W.kp [0, 4, 5, 6, 7, 8, 38, 48] ?_
     refine AWp.region ?_
     refine L.Y Y.mv ?_
     refine L.Y Y.bin ?_
     refine L.Y Y.asg ?_
     refine AList.nil ?_
     exact ⟨k128, by omega, _, _, ⟨by omega, _, _, _, _, _, _, _, rfl, rfl, h⟩, IsPart.at [] [0, 1, 2, 3] base1 (H.c (H.c (H.c (H.c .nil)))) (E.c (E.c (E.c (E.c (E.c .nil)))))⟩
   ·
    have hb130 := hb
    try simp only [hS, hE, ne_eq] at hb
    first | rw [if_pos hb130] at h | rw [if_neg (Bool.eq_false_iff.1 hb130)] at h | rw [if_pos hb] at h | rw [if_neg hb] at h | (simp only [hb, hT, reduceIte] at h) | skip
    refine AWp.exit ?_
    refine AWp.seq ?_
    refine AWp.seq ?_
    refine AWp.region ?_
    refine L.Y Y.mv ?_
    rcases k128 with _ | k128
    ·
     exact absurd h (by simp [spec_l1Cur_chosen.j3])
    simp only [spec_l1Cur_chosen.j3] at h
    obtain ⟨⟨t275, t276, t277⟩, hc133, h⟩ := Option.bind_eq_some_iff.1 h
    dsimp only at h
    refine L.C (C.callE (l := false) [0] Tryd.func80 (spec_l1Cur_pick.ac _ _ _ _ _ _ _ hc133) (H.c .nil) ?_)
    refine AList.nil ?_
    refine AWp.block ?_
    refine AWp.seq ?_
    refine W.kp [0, 4, 5, 6, 7, 38, 55] ?_
    refine AWp.region ?_
    refine L.Y Y.bin ?_
    refine L.Y Y.asg ?_
    refine AList.nil ?_
    refine W.cond (fun hb => ?_) (fun hb => ?_)
    ·
     have hb134 := hb
     try simp only [hS, hE, ne_eq] at hb
     first | rw [if_pos hb134] at h | rw [if_neg (Bool.eq_false_iff.1 hb134)] at h | rw [if_pos hb] at h | rw [if_neg hb] at h | (simp only [hb, hT, reduceIte] at h) | skip
     refine AWp.region ?_
     refine L.Y Y.mv ?_
     refine L.Y Y.mv ?_
     refine L.Y Y.mv ?_
     refine L.Y (Y.ln Tryd.underlying22) ?_
     obtain ⟨⟨t278, t279, t280⟩, hc135, h⟩ := Option.bind_eq_some_iff.1 h
     dsimp only at h
     repeat (first | (rw [iN] at h; obtain ⟨_, h⟩ := h) | (rw [iP] at h; obtain ⟨_, h⟩ := h) | (simp only [bS] at h))
     refine L.C (C.callE (l := false) [0] Tryd.func80 (spec_l1Cur_pick.ac _ _ _ _ _ _ _ hc135) (H.c .nil) ?_)
     refine L.Y Y.mv ?_
     refine L.M (M.bs Tryd.underlying22 Y3) ?_
     obtain ⟨⟨t284, t285, t286⟩, hc136, h⟩ := Option.bind_eq_some_iff.1 h
     dsimp only at h
     repeat (first | (rw [iN] at h; obtain ⟨_, h⟩ := h) | (rw [iP] at h; obtain ⟨_, h⟩ := h) | (simp only [bS] at h))
     refine L.C ?_
     refine C.frz 4 ?_
     refine C.callE (l := false) [0] Tryd.func81 (spec_l1Cur_among.ac _ _ _ _ _ _ _ hc136) (H.c .nil) ?_
     refine L.Y (Y.ixo Tryd.underlying22 Y3) ?_
     refine L.S (S.sts Y3) ?_
     refine AList.nil ?_
     refine AWp.seq ?_
     refine W.kp [0, 4, 5, 6, 7, 38, 55, 56] ?_
     refine AWp.region ?_
     refine L.Y Y.mv ?_
     refine L.Y Y.mv ?_
     refine L.Y Y.asg ?_
     refine L.Y Y.asg ?_
     refine AList.nil ?_
     simp only [Option.some.injEq, Prod.mk.injEq] at h
     obtain ⟨rfl, rfl, rfl, rfl⟩ := h
     refine AWp.ret ?_
     exact ⟨.inr rfl, [(2, _), (3, _)], _, ⟨rfl, rfl⟩, IsPart.at [] [0, 1] base1 (H.c (H.c .nil)) (E.c (E.c .nil))⟩
    ·
     have hb134 := hb
     try simp only [hS, hE, ne_eq] at hb
     first | rw [if_pos hb134] at h | rw [if_neg (Bool.eq_false_iff.1 hb134)] at h | rw [if_pos hb] at h | rw [if_neg hb] at h | (simp only [hb, hT, reduceIte] at h) | skip
     refine AWp.seq ?_
     refine AWp.region ?_
     refine L.Y Y.bin ?_
     refine L.Y Y.asg ?_
     refine AList.nil ?_
     refine W.cond (fun hb => ?_) (fun hb => ?_)
     ·
      have hb137 := hb
      try simp only [hS, hE, ne_eq] at hb
      first | rw [if_pos hb137] at h | rw [if_neg (Bool.eq_false_iff.1 hb137)] at h | rw [if_pos hb] at h | rw [if_neg hb] at h | (simp only [hb, hT, reduceIte] at h) | skip
      repeat (first | (rw [iN] at h; obtain ⟨_, h⟩ := h) | (rw [iP] at h; obtain ⟨_, h⟩ := h) | (simp only [bS] at h))
      refine AWp.region ?_
      refine L.Y Y.mv ?_
      refine L.Y Y.mv ?_
      refine L.Y Y.bin ?_
      refine L.M (M.bs Tryd.underlying22 Y3) ?_
      obtain ⟨⟨t291, t292, t293⟩, hc138, h⟩ := Option.bind_eq_some_iff.1 h
      dsimp only at h
      refine L.C ?_
      refine C.frz 4 ?_
      refine C.callE (l := false) [0] Tryd.func81 (spec_l1Cur_among.ac _ _ _ _ _ _ _ hc138) (H.c .nil) ?_
      refine L.Y Y.asg ?_
      refine AList.nil ?_
      refine AWp.seq ?_
      refine W.kp [0, 4, 5, 6, 7, 38, 55, 56, 67] ?_
      refine AWp.region ?_
      refine L.Y Y.mv ?_
      refine L.Y Y.mv ?_
      refine L.Y Y.asg ?_
      refine L.Y Y.asg ?_
      refine AList.nil ?_
      simp only [Option.some.injEq, Prod.mk.injEq] at h
      obtain ⟨rfl, rfl, rfl, rfl⟩ := h
      refine AWp.ret ?_
      exact ⟨.inr rfl, [(2, _), (3, _)], _, ⟨rfl, rfl⟩, IsPart.at [] [0, 1] base1 (H.c (H.c .nil)) (E.c (E.c .nil))⟩
     ·
      have hb137 := hb
      try simp only [hS, hE, ne_eq] at hb
      first | rw [if_pos hb137] at h | rw [if_neg (Bool.eq_false_iff.1 hb137)] at h | rw [if_pos hb] at h | rw [if_neg hb] at h | (simp only [hb, hT, reduceIte] at h) | skip
      refine AWp.seq ?_
      refine AWp.seq ?_
      refine AWp.region ?_
      refine L.Y Y.bin ?_
      refine L.Y Y.asg ?_
      refine AList.nil ?_
      refine W.cond (fun hb => ?_) (fun hb => ?_)
      ·
       have hb139 := hb
       try simp only [hS, hE, ne_eq] at hb
       first | rw [if_pos hb139] at h | rw [if_neg (Bool.eq_false_iff.1 hb139)] at h | rw [if_pos hb] at h | rw [if_neg hb] at h | (simp only [hb, hT, reduceIte] at h) | skip
       refine AWp.skip ?_
       refine W.cond (fun hb => ?_) (fun hb => ?_)
       rotate_left
       ·
        exact DD hb
       have hb140 := hb
       refine AWp.seq ?_
       refine AWp.region ?_
       refine L.Y Y.mv ?_
       refine L.Y Y.mv ?_
       refine L.Y (Y.ln Tryd.underlying22) ?_
       obtain ⟨⟨t294, t295, t296⟩, hc141, h⟩ := Option.bind_eq_some_iff.1 h
       dsimp only at h
       repeat (first | (rw [iN] at h; obtain ⟨_, h⟩ := h) | (rw [iP] at h; obtain ⟨_, h⟩ := h) | (simp only [bS] at h))
       refine L.C (C.callE (l := false) [0] Tryd.func80 (spec_l1Cur_pick.ac _ _ _ _ _ _ _ hc141) (H.c .nil) ?_)
       refine L.Y Y.asg ?_
       refine AList.nil ?_
       refine W.kp [0, 4, 5, 6, 7, 9, 38, 55, 56, 67, 74] ?_
       refine AWp.region ?_
       refine L.Y Y.mv ?_
       refine L.Y Y.mv ?_
       refine L.Y Y.mv ?_
       refine L.Y (Y.ixo Tryd.underlying22 Y3) ?_
       refine L.S (S.sts Y3) ?_
       refine AList.nil ?_
       refine AWp.seq ?_
       refine W.kp [0, 4, 5, 6, 7, 9, 38, 55, 56, 67, 74] ?_
       refine AWp.region ?_
       refine L.Y Y.mv ?_
       refine L.Y Y.mv ?_
       refine L.Y Y.asg ?_
       refine L.Y Y.asg ?_
       refine AList.nil ?_
       simp only [Option.some.injEq, Prod.mk.injEq] at h
       obtain ⟨rfl, rfl, rfl, rfl⟩ := h
       refine AWp.ret ?_
       exact ⟨.inr rfl, [(2, _), (3, _)], _, ⟨rfl, rfl⟩, IsPart.at [] [0, 1] base1 (H.c (H.c .nil)) (E.c (E.c .nil))⟩
      ·
       have hb139 := hb
       try simp only [hS, hE, ne_eq] at hb
       first | rw [if_pos hb139] at h | rw [if_neg (Bool.eq_false_iff.1 hb139)] at h | rw [if_pos hb] at h | rw [if_neg hb] at h | (simp only [hb, hT, reduceIte] at h) | skip
       refine AWp.region ?_
       refine L.Y Y.bin ?_
       refine L.Y Y.asg ?_
       refine AList.nil ?_
       refine W.cond (fun hb => ?_) (fun hb => ?_)
       ·
        have hb142 := hb
        try simp only [hS, hE, ne_eq] at hb
        first | rw [if_pos hb142] at h | rw [if_neg (Bool.eq_false_iff.1 hb142)] at h | rw [if_pos hb] at h | rw [if_neg hb] at h | (simp only [hb, hT, reduceIte] at h) | skip
        refine AWp.seq ?_
        refine W.kp [0, 4, 5, 6, 7, 38, 55, 56, 67, 74] ?_
        refine AWp.region ?_
        refine L.Y Y.mv ?_
        refine L.Y Y.mv ?_
        refine L.Y (Y.ln Tryd.underlying22) ?_
        obtain ⟨⟨t298, t299, t300⟩, hc143, h⟩ := Option.bind_eq_some_iff.1 h
        dsimp only at h
        repeat (first | (rw [iN] at h; obtain ⟨_, h⟩ := h) | (rw [iP] at h; obtain ⟨_, h⟩ := h) | (simp only [bS] at h))
        refine L.C (C.callE (l := false) [0] Tryd.func80 (spec_l1Cur_pick.ac _ _ _ _ _ _ _ hc143) (H.c .nil) ?_)
        refine L.Y Y.asg ?_
        refine AList.nil ?_
        refine W.kp [0, 4, 5, 6, 7, 9, 38, 55, 56, 67, 74] ?_
        refine AWp.region ?_
        refine L.Y Y.mv ?_
        refine L.Y Y.mv ?_
        refine L.Y Y.mv ?_
        refine L.Y (Y.ixo Tryd.underlying22 Y3) ?_
        refine L.S (S.sts Y3) ?_
        refine AList.nil ?_
        refine AWp.seq ?_
        refine W.kp [0, 4, 5, 6, 7, 9, 38, 55, 56, 67, 74] ?_
        refine AWp.region ?_
        refine L.Y Y.mv ?_
        refine L.Y Y.mv ?_
        refine L.Y Y.asg ?_
        refine L.Y Y.asg ?_
        refine AList.nil ?_
        simp only [Option.some.injEq, Prod.mk.injEq] at h
        obtain ⟨rfl, rfl, rfl, rfl⟩ := h
        refine AWp.ret ?_
        exact ⟨.inr rfl, [(2, _), (3, _)], _, ⟨rfl, rfl⟩, IsPart.at [] [0, 1] base1 (H.c (H.c .nil)) (E.c (E.c .nil))⟩
       ·
        have hb142 := hb
        try simp only [hS, hE, ne_eq] at hb
        first | rw [if_pos hb142] at h | rw [if_neg (Bool.eq_false_iff.1 hb142)] at h | rw [if_pos hb] at h | rw [if_neg hb] at h | (simp only [hb, hT, reduceIte] at h) | skip
        refine AWp.skip ?_
        refine AWp.seq ?_
        refine W.kp [0, 4, 5, 6, 7, 38, 55, 56, 67, 74] ?_
        refine AWp.region ?_
        refine L.Y Y.mv ?_
        refine L.Y Y.mv ?_
        refine L.Y Y.asg ?_
        refine L.Y Y.asg ?_
        refine AList.nil ?_
        simp only [Option.some.injEq, Prod.mk.injEq] at h
        obtain ⟨rfl, rfl, rfl, rfl⟩ := h
        refine AWp.ret ?_
        exact ⟨.inr rfl, [(2, _), (3, _)], _, ⟨rfl, rfl⟩, IsPart.at [] [0, 1] base1 (H.c (H.c .nil)) (E.c (E.c .nil))⟩

end Go.Proofs.YtpippjgphndjmaaDoor.PFnRationalTables
