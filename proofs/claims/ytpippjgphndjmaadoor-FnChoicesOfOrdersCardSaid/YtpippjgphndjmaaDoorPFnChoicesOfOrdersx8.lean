-- Written by a program of this session's (wip/myprint2): the functions by the kit's print, the walks by awgen.py. Lean checks it.
import Derived.Test.YtpippjgphndjmaaDoorPFnChoicesOfOrdersx0
import Derived.Test.YtpippjgphndjmaaDoorPFnChoicesOfOrdersx1
import Derived.Test.YtpippjgphndjmaaDoorPFnChoicesOfOrdersx4
import Derived.Test.YtpippjgphndjmaaDoorPFnChoicesOfOrdersx5
import Derived.Test.YtpippjgphndjmaaDoorPFnChoicesOfOrdersx6
import Derived.Test.YtpippjgphndjmaaDoorPFnChoicesOfOrdersx7
namespace Go.Proofs.YtpippjgphndjmaaDoor.PFnChoicesOfOrders
open Go.RowKit Go.Proofs.YtpippjgphndjmaaDoorW.PrintWords Go.Proofs.YtpippjgphndjmaaDoorW.PrintLast Go.Proofs.YtpippjgphndjmaaDoorW.PrintMore Go.Proofs.YtpippjgphndjmaaDoorM Go.Proofs.YtpippjgphndjmaaDoorA Go.Proofs.YtpippjgphndjmaaDoorT
attribute [local go_sem] max2_int min2_int max_two min_two max_three min_three max_four min_four   -- for this text's walks alone
set_option linter.unusedVariables false
set_option linter.unusedSimpArgs false

/-! ### laws_FnChoicesOfOrders: function 4 -/
mutual
def laws_FnChoicesOfOrders.j0 : Nat → List Int → Int → Int → Bool → Bool → Int → List Int → Option (Bool)
 | 0, _, _, _, _, _, _, _ => none
 | k + 1, x1, x6, x7, x8, x49, x349000, x349001 => if x49 = true then (some false) else ((impl_IsAcyclic.f k x349000 x349001).bind fun bt353 => ((spec_IsAcyclic.f k x349000 x349001).bind fun bt355 => (if (bt353.2 != bt355.2) = true then (laws_FnChoicesOfOrders.j1 k x1 x6 x7 x8 bt353.1 true x349000 x349001) else (if (bt353.1 != bt355.1) = true then (laws_FnChoicesOfOrders.j1 k x1 x6 x7 x8 bt353.1 true x349000 x349001) else ((impl_IsRelation.f k x349000 x349001).bind fun t357 => (if (bt353.2 != t357) = true then (laws_FnChoicesOfOrders.j1 k x1 x6 x7 x8 bt353.1 true x349000 x349001) else ((impl_IsOrder.f k x349000 x349001).bind fun t358 => (if t358 = true then (laws_FnChoicesOfOrders.j1 k x1 x6 x7 x8 bt353.1 (!bt353.1) x349000 x349001) else (laws_FnChoicesOfOrders.j1 k x1 x6 x7 x8 bt353.1 false x349000 x349001)))))))))
def laws_FnChoicesOfOrders.j1 : Nat → List Int → Int → Int → Bool → Bool → Bool → Int → List Int → Option (Bool)
 | 0, _, _, _, _, _, _, _, _ => none
 | k + 1, x1, x6, x7, x8, x11, x81, x349000, x349001 => if x81 = true then (some false) else (if x8 = true then (if (Go.bits .andNot .i64 x7 x6) = 0 then (if x11 = true then (if x6 = 0 then (laws_FnChoicesOfOrders.j2 k x1 x6 x7 false x349000 x349001) else (laws_FnChoicesOfOrders.j2 k x1 x6 x7 (x7 == 0) x349000 x349001)) else (laws_FnChoicesOfOrders.j2 k x1 x6 x7 false x349000 x349001)) else (laws_FnChoicesOfOrders.j2 k x1 x6 x7 true x349000 x349001)) else (some true))
def laws_FnChoicesOfOrders.j2 : Nat → List Int → Int → Int → Bool → Int → List Int → Option (Bool)
 | 0, _, _, _, _, _, _ => none
 | k + 1, x1, x6, x7, x98, x349000, x349001 => if x98 = true then (some false) else ((impl_IsOrder.f k x349000 x349001).bind fun t359 => (if t359 = true then ((laws_vNumber.f k x1).bind fun t360 => (if 0 ≤ x349000 then (if (shl .i64 1 x349000) = 0 then (none) else ((impl_ChoiceOf.f k x349000 x349001 (Int.tmod t360 (shl .i64 1 x349000))).bind fun bt361 => ((impl_ChoiceOf.f k x349000 x349001 (Go.bits .or .i64 x6 (Int.tmod t360 (shl .i64 1 x349000)))).bind fun bt363 => ((impl_ChoiceOf.f k x349000 x349001 (Go.bits .or .i64 x7 bt361.1)).bind fun bt365 => (if bt361.2 = true then (if bt363.2 = true then (if bt365.2 = true then (some (bt363.1 == bt365.1)) else (some false)) else (some false)) else (some false)))))) else (none))) else (some true)))
end
def laws_FnChoicesOfOrders.f (k : Nat) (l0 : List Int) (l1 : List Int) : Option (Bool) := (laws_big.f l0 l1).bind fun t342 => (if t342 = true then (some true) else ((spec_DrawChoiceOf.f k l0).bind fun bt343 => ((impl_ChoiceOf.f k bt343.1 bt343.2.1 bt343.2.2).bind fun bt349 => ((spec_ChoiceOf.f k bt343.1 bt343.2.1 bt343.2.2).bind fun bt351 => (if (bt349.2 != bt351.2) = true then (laws_FnChoicesOfOrders.j0 k l1 bt343.2.2 bt349.1 bt349.2 true bt343.1 bt343.2.1) else (laws_FnChoicesOfOrders.j0 k l1 bt343.2.2 bt349.1 bt349.2 (bt349.1 != bt351.1) bt343.1 bt343.2.1))))))
set_option maxRecDepth 100000 in
set_option maxHeartbeats 20000000 in
theorem laws_FnChoicesOfOrders.ac (k : Nat) (l0 : List Int) (l1 : List Int)  (h : laws_FnChoicesOfOrders.f k l0 l1 = some true) :
  ACalls Tryd.prog 4 [.row 1 l0.length false (ints .u8 l0), .row 1 l1.length false (ints .u8 l1)] [] (fun v H' => v = .lit (.bool true) ∧ H' = []) := by
 refine ACalls.ofP [4] Tryd.func4 rfl (by exact Nat.le_of_ble_eq_true rfl) rfl (by decide) ?_
 simp only [Tryd.ntmps4, env0, laws_FnChoicesOfOrders.f] at h ⊢
 refine AWp.seq ?_
 refine AWp.region ?_
 refine L.Y Y.asg ?_
 refine AList.nil ?_
 refine AWp.seq ?_
 refine AWp.seq ?_
 refine AWp.region ?_
 refine L.Y Y.mv ?_
 refine L.Y Y.mv ?_
 replace h := Option.bind_eq_some_iff.1 h
 obtain ⟨t342, hc1, h⟩ := h
 refine L.C (C.callE (l := true) [] Tryd.func22 (laws_big.ac _ _ _ hc1) .nil ?_)
 refine AList.nil ?_
 refine W.cond (fun hb => ?_) (fun hb => ?_)
 ·
  have hb2 := hb
  try simp only [hS, hE, ne_eq] at hb
  first | rw [if_pos hb2] at h | rw [if_neg (Bool.eq_false_iff.1 hb2)] at h | rw [if_pos hb] at h | rw [if_neg hb] at h | (simp only [hb, hT, reduceIte] at h) | skip
  refine AWp.seq ?_
  refine AWp.region ?_
  refine L.Y Y.asg ?_
  refine AList.nil ?_
  refine AWp.ret ?_
  first | (exfalso; cases h; done) | exact ⟨.inr rfl, [(4, _)], _, ⟨rfl, rfl⟩, IsPart.at [] [] base0 .nil (E.c .nil (hs := Sub.litE (LV h)))⟩
 ·
  have hb2 := hb
  try simp only [hS, hE, ne_eq] at hb
  first | rw [if_pos hb2] at h | rw [if_neg (Bool.eq_false_iff.1 hb2)] at h | rw [if_pos hb] at h | rw [if_neg hb] at h | (simp only [hb, hT, reduceIte] at h) | skip
  refine AWp.skip ?_
  refine AWp.seq ?_
  refine AWp.region ?_
  refine L.Y Y.mv ?_
  replace h := Option.bind_eq_some_iff.1 h
  obtain ⟨⟨t343, t344, t347⟩, hc3, h⟩ := h
  dsimp only at h
  refine L.C (C.callE (l := true) [] Tryd.func23 (spec_DrawChoiceOf.ac _ _ _ _ _ hc3) .nil ?_)
  refine L.Y Y.mv ?_
  refine L.Y Y.ex ?_
  refine L.Y Y.ex ?_
  refine L.M (M.al Y30) ?_
  refine L.S (S.stb Y30) ?_
  refine L.Y Y.asg ?_
  refine AList.nil ?_
  refine AWp.seq ?_
  refine W.kp [0, 1, 4, 5, 6, 24] ?_
  refine AWp.region ?_
  refine L.S (S.ldN Tryd.underlying30 Y30) ?_
  refine L.Y Y.mv ?_
  replace h := Option.bind_eq_some_iff.1 h
  obtain ⟨⟨t349, t350⟩, hc4, h⟩ := h
  dsimp only at h
  refine L.C (C.callE (l := true) [] Tryd.func24 (impl_ChoiceOf.ac _ _ _ _ _ _ hc4) .nil ?_)
  refine L.Y Y.mv ?_
  refine L.Y Y.ex ?_
  refine L.Y Y.ex ?_
  refine L.Y Y.asg ?_
  refine L.Y Y.asg ?_
  refine AList.nil ?_
  refine AWp.seq ?_
  refine W.kp [0, 1, 4, 5, 6, 7, 8, 24] ?_
  refine AWp.region ?_
  refine L.S (S.ldN Tryd.underlying30 Y30) ?_
  refine L.Y Y.mv ?_
  replace h := Option.bind_eq_some_iff.1 h
  obtain ⟨⟨t351, t352⟩, hc5, h⟩ := h
  dsimp only at h
  refine L.C (C.callE (l := true) [] Tryd.func25 (spec_ChoiceOf.ac _ _ _ _ _ _ hc5) .nil ?_)
  refine L.Y Y.mv ?_
  refine L.Y Y.ex ?_
  refine L.Y Y.ex ?_
  refine L.Y Y.asg ?_
  refine L.Y Y.asg ?_
  refine AList.nil ?_
  refine AWp.seq ?_
  refine AWp.seq ?_
  refine W.kp [0, 1, 4, 5, 6, 7, 8, 9, 10, 24] ?_
  refine AWp.region ?_
  refine L.Y Y.mv ?_
  refine L.Y Y.mv ?_
  refine L.Y (Y.bb Tryd.underlying4) ?_
  refine L.Y Y.mv ?_
  refine L.Gc (fun hb => ?_) (fun hb => ?_)
  ·
   have hb6 := hb
   try simp only [hS, hE, ne_eq] at hb
   first | rw [if_pos hb6] at h | rw [if_neg (Bool.eq_false_iff.1 hb6)] at h | rw [if_pos hb] at h | rw [if_neg hb] at h | (simp only [hb, hT, reduceIte] at h) | skip
   exfalso
   revert h
   exact fun h => by cases k <;> simp [laws_FnChoicesOfOrders.j0] at h
  ·
   have hb6 := hb
   try simp only [hS, hE, ne_eq] at hb
   first | rw [if_pos hb6] at h | rw [if_neg (Bool.eq_false_iff.1 hb6)] at h | rw [if_pos hb] at h | rw [if_neg hb] at h | (simp only [hb, hT, reduceIte] at h) | skip
   refine L.Gy hb6 Y.mv ?_
   refine L.Gy hb6 Y.mv ?_
   refine L.Gy hb6 Y.bin ?_
   refine L.Y (Y.pk (c := false) hb6) ?_
   refine AList.nil ?_
   rcases k with _ | k
   ·
    exact absurd h (by simp [laws_FnChoicesOfOrders.j0])
   simp only [laws_FnChoicesOfOrders.j0] at h
   refine W.cond (fun hb => ?_) (fun hb => ?_)
   ·
    have hb7 := hb
    try simp only [hS, hE, ne_eq] at hb
    first | rw [if_pos hb7] at h | rw [if_neg (Bool.eq_false_iff.1 hb7)] at h | rw [if_pos hb] at h | rw [if_neg hb] at h | (simp only [hb, hT, reduceIte] at h) | skip
    exfalso
    revert h
    exact fun h => by simp at h
   ·
    have hb7 := hb
    try simp only [hS, hE, ne_eq] at hb
    first | rw [if_pos hb7] at h | rw [if_neg (Bool.eq_false_iff.1 hb7)] at h | rw [if_pos hb] at h | rw [if_neg hb] at h | (simp only [hb, hT, reduceIte] at h) | skip
    refine AWp.skip ?_
    refine AWp.seq ?_
    refine W.kp [0, 1, 4, 5, 6, 7, 8, 9, 10, 24, 49] ?_
    refine AWp.region ?_
    refine L.S (S.ldN Tryd.underlying30 Y30) ?_
    replace h := Option.bind_eq_some_iff.1 h
    obtain ⟨⟨t353, t354⟩, hc8, h⟩ := h
    dsimp only at h
    refine L.C (C.callE (l := true) [] Tryd.func26 (impl_IsAcyclic.ac _ _ _ _ _ hc8) .nil ?_)
    refine L.Y Y.mv ?_
    refine L.Y Y.ex ?_
    refine L.Y Y.ex ?_
    refine L.Y Y.asg ?_
    refine L.Y Y.asg ?_
    refine AList.nil ?_
    refine AWp.seq ?_
    refine W.kp [0, 1, 4, 5, 6, 7, 8, 9, 10, 11, 12, 24, 49] ?_
    refine AWp.region ?_
    refine L.S (S.ldN Tryd.underlying30 Y30) ?_
    replace h := Option.bind_eq_some_iff.1 h
    obtain ⟨⟨t355, t356⟩, hc9, h⟩ := h
    dsimp only at h
    refine L.C (C.callE (l := true) [] Tryd.func27 (spec_IsAcyclic.ac _ _ _ _ _ hc9) .nil ?_)
    refine L.Y Y.mv ?_
    refine L.Y Y.ex ?_
    refine L.Y Y.ex ?_
    refine L.Y Y.asg ?_
    refine L.Y Y.asg ?_
    refine AList.nil ?_
    refine AWp.seq ?_
    refine AWp.seq ?_
    refine W.kp [0, 1, 4, 5, 6, 7, 8, 9, 10, 11, 12, 13, 14, 24, 49] ?_
    refine AWp.region ?_
    refine L.Y Y.mv ?_
    refine L.Y Y.mv ?_
    refine L.Y (Y.bb Tryd.underlying4) ?_
    refine L.Y Y.mv ?_
    refine L.Gc (fun hb => ?_) (fun hb => ?_)
    ·
     have hb10 := hb
     try simp only [hS, hE, ne_eq] at hb
     first | rw [if_pos hb10] at h | rw [if_neg (Bool.eq_false_iff.1 hb10)] at h | rw [if_pos hb] at h | rw [if_neg hb] at h | (simp only [hb, hT, reduceIte] at h) | skip
     exfalso
     revert h
     exact fun h => by cases k <;> simp [laws_FnChoicesOfOrders.j1] at h
    ·
     have hb10 := hb
     try simp only [hS, hE, ne_eq] at hb
     first | rw [if_pos hb10] at h | rw [if_neg (Bool.eq_false_iff.1 hb10)] at h | rw [if_pos hb] at h | rw [if_neg hb] at h | (simp only [hb, hT, reduceIte] at h) | skip
     refine L.Gy hb10 Y.mv ?_
     refine L.Gy hb10 Y.mv ?_
     refine L.Gy hb10 (Y.bb Tryd.underlying4) ?_
     refine L.Y (Y.pk (c := false) hb10) ?_
     refine L.Y Y.mv ?_
     refine L.Gc (fun hb => ?_) (fun hb => ?_)
     ·
      have hb11 := hb
      try simp only [hS, hE, ne_eq] at hb
      first | rw [if_pos hb11] at h | rw [if_neg (Bool.eq_false_iff.1 hb11)] at h | rw [if_pos hb] at h | rw [if_neg hb] at h | (simp only [hb, hT, reduceIte] at h) | skip
      exfalso
      revert h
      exact fun h => by cases k <;> simp [laws_FnChoicesOfOrders.j1] at h
     ·
      have hb11 := hb
      try simp only [hS, hE, ne_eq] at hb
      first | rw [if_pos hb11] at h | rw [if_neg (Bool.eq_false_iff.1 hb11)] at h | rw [if_pos hb] at h | rw [if_neg hb] at h | (simp only [hb, hT, reduceIte] at h) | skip
      refine L.Gy hb11 Y.mv ?_
      refine L.Gs hb11 (S.ldN Tryd.underlying30 Y30) ?_
      replace h := Option.bind_eq_some_iff.1 h
      obtain ⟨t357, hc12, h⟩ := h
      refine L.GC hb11 (C.callE (l := true) [] Tryd.func28 (impl_IsRelation.ac _ _ _ _ hc12) .nil ?_)
      refine L.Gy hb11 (Y.bb Tryd.underlying4) ?_
      refine L.Y (Y.pk (c := false) hb11) ?_
      refine L.Y Y.mv ?_
      refine L.Gc (fun hb => ?_) (fun hb => ?_)
      ·
       have hb13 := hb
       try simp only [hS, hE, ne_eq] at hb
       first | rw [if_pos hb13] at h | rw [if_neg (Bool.eq_false_iff.1 hb13)] at h | rw [if_pos hb] at h | rw [if_neg hb] at h | (simp only [hb, hT, reduceIte] at h) | skip
       exfalso
       revert h
       exact fun h => by cases k <;> simp [laws_FnChoicesOfOrders.j1] at h
      ·
       have hb13 := hb
       try simp only [hS, hE, ne_eq] at hb
       first | rw [if_pos hb13] at h | rw [if_neg (Bool.eq_false_iff.1 hb13)] at h | rw [if_pos hb] at h | rw [if_neg hb] at h | (simp only [hb, hT, reduceIte] at h) | skip
       refine L.Gs hb13 (S.ldN Tryd.underlying30 Y30) ?_
       replace h := Option.bind_eq_some_iff.1 h
       obtain ⟨t358, hc14, h⟩ := h
       refine L.GC hb13 (C.callE (l := true) [] Tryd.func29 (impl_IsOrder.ac _ _ _ _ hc14) .nil ?_)
       refine L.Gy hb13 Y.mv ?_
       refine L.Gc (fun hb => ?_) (fun hb => ?_)
       ·
        have hb15 := hb
        try simp only [hS, hE, ne_eq] at hb
        first | rw [if_pos hb15] at h | rw [if_neg (Bool.eq_false_iff.1 hb15)] at h | rw [if_pos hb] at h | rw [if_neg hb] at h | (simp only [hb, hT, reduceIte] at h) | skip
        refine L.Gy hb15 Y.mv ?_
        refine L.Gy hb15 Y.nt ?_
        refine L.Gy hb13 (Y.pk (c := true) hb15) ?_
        refine L.Y (Y.pk (c := false) hb13) ?_
        refine AList.nil ?_
        rcases k with _ | k
        ·
         exact absurd h (by simp [laws_FnChoicesOfOrders.j1])
        simp only [laws_FnChoicesOfOrders.j1] at h
        refine W.cond (fun hb => ?_) (fun hb => ?_)
        ·
         have hb16 := hb
         try simp only [hS, hE, ne_eq] at hb
         first | rw [if_pos hb16] at h | rw [if_neg (Bool.eq_false_iff.1 hb16)] at h | rw [if_pos hb] at h | rw [if_neg hb] at h | (simp only [hb, hT, reduceIte] at h) | skip
         exfalso
         revert h
         exact fun h => by simp at h
        ·
         have hb16 := hb
         try simp only [hS, hE, ne_eq] at hb
         first | rw [if_pos hb16] at h | rw [if_neg (Bool.eq_false_iff.1 hb16)] at h | rw [if_pos hb] at h | rw [if_neg hb] at h | (simp only [hb, hT, reduceIte] at h) | skip
         refine AWp.skip ?_
         refine AWp.seq ?_
         refine AWp.seq ?_
         refine W.kp [0, 1, 4, 5, 6, 7, 8, 9, 10, 11, 12, 13, 14, 24, 49, 81] ?_
         refine AWp.region ?_
         refine L.Y Y.mv ?_
         refine L.Y Y.nt ?_
         refine AList.nil ?_
         refine W.cond (fun hb => ?_) (fun hb => ?_)
         ·
          have hb17 := hb
          try simp only [hS, hE, ne_eq] at hb
          first | rw [if_pos hb17] at h | rw [if_neg (Bool.eq_false_iff.1 hb17)] at h | rw [if_pos hb] at h | rw [if_neg hb] at h | (simp only [hb, hT, reduceIte] at h) | skip
          refine AWp.seq ?_
          refine AWp.region ?_
          refine L.Y Y.asg ?_
          refine AList.nil ?_
          refine AWp.ret ?_
          first | (exfalso; cases h; done) | exact ⟨.inr rfl, [(4, _)], _, ⟨rfl, rfl⟩, IsPart.at [] [] base0 .nil (E.c .nil (hs := Sub.litE (LV h)))⟩
         ·
          have hb17 := hb
          try simp only [hS, hE, ne_eq] at hb
          first | rw [if_pos hb17] at h | rw [if_neg (Bool.eq_false_iff.1 hb17)] at h | rw [if_pos hb] at h | rw [if_neg hb] at h | (simp only [hb, hT, reduceIte] at h) | skip
          refine AWp.skip ?_
          refine AWp.seq ?_
          refine AWp.seq ?_
          refine AWp.region ?_
          refine L.Y Y.mv ?_
          refine L.Y Y.mv ?_
          refine L.Y Y.bin ?_
          refine L.Y Y.bin ?_
          refine L.Y Y.mv ?_
          refine L.Gc (fun hb => ?_) (fun hb => ?_)
          ·
           have hb18 := hb
           try simp only [hS, hE, ne_eq] at hb
           first | rw [if_pos hb18] at h | rw [if_neg (Bool.eq_false_iff.1 hb18)] at h | rw [if_pos hb] at h | rw [if_neg hb] at h | (simp only [hb, hT, reduceIte] at h) | skip
           exfalso
           revert h
           exact fun h => by cases k <;> simp [laws_FnChoicesOfOrders.j2] at h
          ·
           have hb18 := hb
           try simp only [hS, hE, ne_eq] at hb
           first | rw [if_pos hb18] at h | rw [if_neg (Bool.eq_false_iff.1 hb18)] at h | rw [if_pos hb] at h | rw [if_neg hb] at h | (simp only [hb, hT, reduceIte] at h) | skip
           refine L.Gy hb18 Y.mv ?_
           refine L.Gy hb18 Y.mv ?_
           refine L.Gc (fun hb => ?_) (fun hb => ?_)
           ·
            have hb19 := hb
            try simp only [hS, hE, ne_eq] at hb
            first | rw [if_pos hb19] at h | rw [if_neg (Bool.eq_false_iff.1 hb19)] at h | rw [if_pos hb] at h | rw [if_neg hb] at h | (simp only [hb, hT, reduceIte] at h) | skip
            refine L.Gy hb19 Y.mv ?_
            refine L.Gy hb19 Y.bin ?_
            refine L.Gy hb18 (Y.pk (c := true) hb19) ?_
            refine L.Gy hb18 Y.mv ?_
            refine L.Gc (fun hb => ?_) (fun hb => ?_)
            ·
             have hb20 := hb
             try simp only [hS, hE, ne_eq] at hb
             first | rw [if_pos hb20] at h | rw [if_neg (Bool.eq_false_iff.1 hb20)] at h | rw [if_pos hb] at h | rw [if_neg hb] at h | (simp only [hb, hT, reduceIte] at h) | skip
             refine L.Gy hb20 Y.mv ?_
             refine L.Gy hb20 Y.bin ?_
             refine L.Gy hb18 (Y.pk (c := true) hb20) ?_
             refine L.Y (Y.pk (c := false) hb18) ?_
             refine AList.nil ?_
             rcases k with _ | k
             ·
              exact absurd h (by simp [laws_FnChoicesOfOrders.j2])
             simp only [laws_FnChoicesOfOrders.j2] at h
             refine W.cond (fun hb => ?_) (fun hb => ?_)
             ·
              have hb21 := hb
              try simp only [hS, hE, ne_eq] at hb
              first | rw [if_pos hb21] at h | rw [if_neg (Bool.eq_false_iff.1 hb21)] at h | rw [if_pos hb] at h | rw [if_neg hb] at h | (simp only [hb, hT, reduceIte] at h) | skip
              exfalso
              revert h
              exact fun h => by simp at h
             ·
              have hb21 := hb
              try simp only [hS, hE, ne_eq] at hb
              first | rw [if_pos hb21] at h | rw [if_neg (Bool.eq_false_iff.1 hb21)] at h | rw [if_pos hb] at h | rw [if_neg hb] at h | (simp only [hb, hT, reduceIte] at h) | skip
              refine AWp.skip ?_
              refine AWp.seq ?_
              refine AWp.seq ?_
              refine W.kp [0, 1, 4, 5, 6, 7, 8, 9, 10, 11, 12, 13, 14, 24, 49, 81, 83, 98] ?_
              refine AWp.region ?_
              refine L.S (S.ldN Tryd.underlying30 Y30) ?_
              replace h := Option.bind_eq_some_iff.1 h
              obtain ⟨t359, hc22, h⟩ := h
              refine L.C (C.callE (l := true) [] Tryd.func29 (impl_IsOrder.ac _ _ _ _ hc22) .nil ?_)
              refine L.Y Y.nt ?_
              refine AList.nil ?_
              refine W.cond (fun hb => ?_) (fun hb => ?_)
              ·
               have hb23 := hb
               try simp only [hS, hE, ne_eq] at hb
               first | rw [if_pos hb23] at h | rw [if_neg (Bool.eq_false_iff.1 hb23)] at h | rw [if_pos hb] at h | rw [if_neg hb] at h | (simp only [hb, hT, reduceIte] at h) | skip
               refine AWp.seq ?_
               refine AWp.region ?_
               refine L.Y Y.asg ?_
               refine AList.nil ?_
               refine AWp.ret ?_
               first | (exfalso; cases h; done) | exact ⟨.inr rfl, [(4, _)], _, ⟨rfl, rfl⟩, IsPart.at [] [] base0 .nil (E.c .nil (hs := Sub.litE (LV h)))⟩
              ·
               have hb23 := hb
               try simp only [hS, hE, ne_eq] at hb
               first | rw [if_pos hb23] at h | rw [if_neg (Bool.eq_false_iff.1 hb23)] at h | rw [if_pos hb] at h | rw [if_neg hb] at h | (simp only [hb, hT, reduceIte] at h) | skip
               refine AWp.skip ?_
               refine AWp.seq ?_
               refine Dt.reg [] [] (.y 0 (.y 2 (.t 3 (.y 4 (.one 1 (.y 5 (.y 6 .done))))))) HM ?_
               refine Dt.Y rfl wantN Y.mv ?_
               refine Dt.Y rfl wantN (Y.fa (off := 0) Tryd.underlying30 Y3) ?_
               refine Dt.T rfl wantN (D.ld Tryd.underlying3) ?_
               replace h := Option.bind_eq_some_iff.1 h
               obtain ⟨t360, hc24, h⟩ := h
               repeat (first | (rw [iN] at h; obtain ⟨_, h⟩ := h) | (rw [iP] at h; obtain ⟨_, h⟩ := h) | (simp only [bS] at h))
               refine Dt.Y rfl wantN Y.bin ?_
               refine Dt.O (g' := false) rfl wantN ?_
               refine Ox.C true [] Tryd.func30 (laws_vNumber.ac _ _ _ hc24) .nil ?_
               refine Dt.Y rfl wantN Y.bin ?_
               refine Dt.Y rfl wantN Y.asg ?_
               refine Dt.nil ?_
               refine AWp.seq ?_
               refine W.kp [0, 1, 4, 5, 6, 7, 8, 9, 10, 11, 12, 13, 14, 15, 24, 49, 81, 83, 98, 101] ?_
               refine AWp.region ?_
               refine L.S (S.ldN Tryd.underlying30 Y30) ?_
               refine L.Y Y.mv ?_
               replace h := Option.bind_eq_some_iff.1 h
               obtain ⟨⟨t361, t362⟩, hc25, h⟩ := h
               dsimp only at h
               refine L.C (C.callE (l := true) [] Tryd.func24 (impl_ChoiceOf.ac _ _ _ _ _ _ hc25) .nil ?_)
               refine L.Y Y.mv ?_
               refine L.Y Y.ex ?_
               refine L.Y Y.ex ?_
               refine L.Y Y.asg ?_
               refine L.Y Y.asg ?_
               refine AList.nil ?_
               refine AWp.seq ?_
               refine W.kp [0, 1, 4, 5, 6, 7, 8, 9, 10, 11, 12, 13, 14, 15, 16, 17, 24, 49, 81, 83, 98, 101] ?_
               refine AWp.region ?_
               refine L.S (S.ldN Tryd.underlying30 Y30) ?_
               refine L.Y Y.mv ?_
               refine L.Y Y.mv ?_
               refine L.Y Y.bin ?_
               replace h := Option.bind_eq_some_iff.1 h
               obtain ⟨⟨t363, t364⟩, hc26, h⟩ := h
               dsimp only at h
               refine L.C (C.callE (l := true) [] Tryd.func24 (impl_ChoiceOf.ac _ _ _ _ _ _ hc26) .nil ?_)
               refine L.Y Y.mv ?_
               refine L.Y Y.ex ?_
               refine L.Y Y.ex ?_
               refine L.Y Y.asg ?_
               refine L.Y Y.asg ?_
               refine AList.nil ?_
               refine AWp.seq ?_
               refine W.kp [0, 1, 4, 5, 6, 7, 8, 9, 10, 11, 12, 13, 14, 15, 16, 17, 18, 19, 24, 49, 81, 83, 98, 101] ?_
               refine AWp.region ?_
               refine L.S (S.ldN Tryd.underlying30 Y30) ?_
               refine L.Y Y.mv ?_
               refine L.Y Y.mv ?_
               refine L.Y Y.bin ?_
               replace h := Option.bind_eq_some_iff.1 h
               obtain ⟨⟨t365, t366⟩, hc27, h⟩ := h
               dsimp only at h
               refine L.C (C.callE (l := true) [] Tryd.func24 (impl_ChoiceOf.ac _ _ _ _ _ _ hc27) .nil ?_)
               refine L.Y Y.mv ?_
               refine L.Y Y.ex ?_
               refine L.Y Y.ex ?_
               refine L.Y Y.asg ?_
               refine L.Y Y.asg ?_
               refine AList.nil ?_
               refine AWp.seq ?_
               refine W.kp [0, 1, 4, 5, 6, 7, 8, 9, 10, 11, 12, 13, 14, 15, 16, 17, 18, 19, 20, 21, 24, 49, 81, 83, 98, 101] ?_
               refine AWp.region ?_
               refine L.Y Y.mv ?_
               refine L.Y Y.mv ?_
               refine L.Gc (fun hb => ?_) (fun hb => ?_)
               ·
                have hb28 := hb
                try simp only [hS, hE, ne_eq] at hb
                first | rw [if_pos hb28] at h | rw [if_neg (Bool.eq_false_iff.1 hb28)] at h | rw [if_pos hb] at h | rw [if_neg hb] at h | (simp only [hb, hT, reduceIte] at h) | skip
                refine L.Gy hb28 Y.mv ?_
                refine L.Y (Y.pk (c := true) hb28) ?_
                refine L.Y Y.mv ?_
                refine L.Gc (fun hb => ?_) (fun hb => ?_)
                ·
                 have hb29 := hb
                 try simp only [hS, hE, ne_eq] at hb
                 first | rw [if_pos hb29] at h | rw [if_neg (Bool.eq_false_iff.1 hb29)] at h | rw [if_pos hb] at h | rw [if_neg hb] at h | (simp only [hb, hT, reduceIte] at h) | skip
                 refine L.Gy hb29 Y.mv ?_
                 refine L.Y (Y.pk (c := true) hb29) ?_
                 refine L.Y Y.mv ?_
                 refine L.Gc (fun hb => ?_) (fun hb => ?_)
                 ·
                  have hb30 := hb
                  try simp only [hS, hE, ne_eq] at hb
                  first | rw [if_pos hb30] at h | rw [if_neg (Bool.eq_false_iff.1 hb30)] at h | rw [if_pos hb] at h | rw [if_neg hb] at h | (simp only [hb, hT, reduceIte] at h) | skip
                  refine L.Gy hb30 Y.mv ?_
                  refine L.Gy hb30 Y.mv ?_
                  refine L.Gy hb30 Y.bin ?_
                  refine L.Y (Y.pk (c := true) hb30) ?_
                  refine L.Y Y.asg ?_
                  refine AList.nil ?_
                  refine AWp.ret ?_
                  first | (exfalso; cases h; done) | exact ⟨.inr rfl, [(4, _)], _, ⟨rfl, rfl⟩, IsPart.at [] [] base0 .nil (E.c .nil (hs := Sub.litE (LV h)))⟩
                 ·
                  have hb30 := hb
                  try simp only [hS, hE, ne_eq] at hb
                  first | rw [if_pos hb30] at h | rw [if_neg (Bool.eq_false_iff.1 hb30)] at h | rw [if_pos hb] at h | rw [if_neg hb] at h | (simp only [hb, hT, reduceIte] at h) | skip
                  exfalso
                  revert h
                  exact fun h => by simp at h
                ·
                 have hb29 := hb
                 try simp only [hS, hE, ne_eq] at hb
                 first | rw [if_pos hb29] at h | rw [if_neg (Bool.eq_false_iff.1 hb29)] at h | rw [if_pos hb] at h | rw [if_neg hb] at h | (simp only [hb, hT, reduceIte] at h) | skip
                 exfalso
                 revert h
                 exact fun h => by simp at h
               ·
                have hb28 := hb
                try simp only [hS, hE, ne_eq] at hb
                first | rw [if_pos hb28] at h | rw [if_neg (Bool.eq_false_iff.1 hb28)] at h | rw [if_pos hb] at h | rw [if_neg hb] at h | (simp only [hb, hT, reduceIte] at h) | skip
                exfalso
                revert h
                exact fun h => by simp at h
            ·
             have hb20 := hb
             try simp only [hS, hE, ne_eq] at hb
             first | rw [if_pos hb20] at h | rw [if_neg (Bool.eq_false_iff.1 hb20)] at h | rw [if_pos hb] at h | rw [if_neg hb] at h | (simp only [hb, hT, reduceIte] at h) | skip
             refine L.Gn hb20 ?_
             refine L.Gn hb20 ?_
             refine L.Gy hb18 (Y.pk (c := false) hb20) ?_
             refine L.Y (Y.pk (c := false) hb18) ?_
             refine AList.nil ?_
             rcases k with _ | k
             ·
              exact absurd h (by simp [laws_FnChoicesOfOrders.j2])
             simp only [laws_FnChoicesOfOrders.j2] at h
             refine W.cond (fun hb => ?_) (fun hb => ?_)
             ·
              first | exact Bool.false_ne_true ((Eq.symm (by assumption)).trans hb) | exact Bool.false_ne_true (hb.symm.trans (by assumption)) | exact DD hb
             have hb31 := hb
             try (first | rw [if_pos hb31] at h | rw [if_neg (Bool.eq_false_iff.1 hb31)] at h | rw [if_pos hb] at h | rw [if_neg hb] at h | (simp only [hb, hT, reduceIte] at h) | skip)
             refine AWp.skip ?_
             refine AWp.seq ?_
             refine AWp.seq ?_
             refine W.kp [0, 1, 4, 5, 6, 7, 8, 9, 10, 11, 12, 13, 14, 24, 49, 81, 83, 98] ?_
             refine AWp.region ?_
             refine L.S (S.ldN Tryd.underlying30 Y30) ?_
             replace h := Option.bind_eq_some_iff.1 h
             obtain ⟨t359, hc32, h⟩ := h
             refine L.C (C.callE (l := true) [] Tryd.func29 (impl_IsOrder.ac _ _ _ _ hc32) .nil ?_)
             refine L.Y Y.nt ?_
             refine AList.nil ?_
             refine W.cond (fun hb => ?_) (fun hb => ?_)
             ·
              have hb33 := hb
              try simp only [hS, hE, ne_eq] at hb
              first | rw [if_pos hb33] at h | rw [if_neg (Bool.eq_false_iff.1 hb33)] at h | rw [if_pos hb] at h | rw [if_neg hb] at h | (simp only [hb, hT, reduceIte] at h) | skip
              refine AWp.seq ?_
              refine AWp.region ?_
              refine L.Y Y.asg ?_
              refine AList.nil ?_
              refine AWp.ret ?_
              first | (exfalso; cases h; done) | exact ⟨.inr rfl, [(4, _)], _, ⟨rfl, rfl⟩, IsPart.at [] [] base0 .nil (E.c .nil (hs := Sub.litE (LV h)))⟩
             ·
              have hb33 := hb
              try simp only [hS, hE, ne_eq] at hb
              first | rw [if_pos hb33] at h | rw [if_neg (Bool.eq_false_iff.1 hb33)] at h | rw [if_pos hb] at h | rw [if_neg hb] at h | (simp only [hb, hT, reduceIte] at h) | skip
              refine AWp.skip ?_
              refine AWp.seq ?_
              refine Dt.reg [] [] (.y 0 (.y 2 (.t 3 (.y 4 (.one 1 (.y 5 (.y 6 .done))))))) HM ?_
              refine Dt.Y rfl wantN Y.mv ?_
              refine Dt.Y rfl wantN (Y.fa (off := 0) Tryd.underlying30 Y3) ?_
              refine Dt.T rfl wantN (D.ld Tryd.underlying3) ?_
              replace h := Option.bind_eq_some_iff.1 h
              obtain ⟨t360, hc34, h⟩ := h
              repeat (first | (rw [iN] at h; obtain ⟨_, h⟩ := h) | (rw [iP] at h; obtain ⟨_, h⟩ := h) | (simp only [bS] at h))
              refine Dt.Y rfl wantN Y.bin ?_
              refine Dt.O (g' := false) rfl wantN ?_
              refine Ox.C true [] Tryd.func30 (laws_vNumber.ac _ _ _ hc34) .nil ?_
              refine Dt.Y rfl wantN Y.bin ?_
              refine Dt.Y rfl wantN Y.asg ?_
              refine Dt.nil ?_
              refine AWp.seq ?_
              refine W.kp [0, 1, 4, 5, 6, 7, 8, 9, 10, 11, 12, 13, 14, 15, 24, 49, 81, 83, 98, 101] ?_
              refine AWp.region ?_
              refine L.S (S.ldN Tryd.underlying30 Y30) ?_
              refine L.Y Y.mv ?_
              replace h := Option.bind_eq_some_iff.1 h
              obtain ⟨⟨t361, t362⟩, hc35, h⟩ := h
              dsimp only at h
              refine L.C (C.callE (l := true) [] Tryd.func24 (impl_ChoiceOf.ac _ _ _ _ _ _ hc35) .nil ?_)
              refine L.Y Y.mv ?_
              refine L.Y Y.ex ?_
              refine L.Y Y.ex ?_
              refine L.Y Y.asg ?_
              refine L.Y Y.asg ?_
              refine AList.nil ?_
              refine AWp.seq ?_
              refine W.kp [0, 1, 4, 5, 6, 7, 8, 9, 10, 11, 12, 13, 14, 15, 16, 17, 24, 49, 81, 83, 98, 101] ?_
              refine AWp.region ?_
              refine L.S (S.ldN Tryd.underlying30 Y30) ?_
              refine L.Y Y.mv ?_
              refine L.Y Y.mv ?_
              refine L.Y Y.bin ?_
              replace h := Option.bind_eq_some_iff.1 h
              obtain ⟨⟨t363, t364⟩, hc36, h⟩ := h
              dsimp only at h
              refine L.C (C.callE (l := true) [] Tryd.func24 (impl_ChoiceOf.ac _ _ _ _ _ _ hc36) .nil ?_)
              refine L.Y Y.mv ?_
              refine L.Y Y.ex ?_
              refine L.Y Y.ex ?_
              refine L.Y Y.asg ?_
              refine L.Y Y.asg ?_
              refine AList.nil ?_
              refine AWp.seq ?_
              refine W.kp [0, 1, 4, 5, 6, 7, 8, 9, 10, 11, 12, 13, 14, 15, 16, 17, 18, 19, 24, 49, 81, 83, 98, 101] ?_
              refine AWp.region ?_
              refine L.S (S.ldN Tryd.underlying30 Y30) ?_
              refine L.Y Y.mv ?_
              refine L.Y Y.mv ?_
              refine L.Y Y.bin ?_
              replace h := Option.bind_eq_some_iff.1 h
              obtain ⟨⟨t365, t366⟩, hc37, h⟩ := h
              dsimp only at h
              refine L.C (C.callE (l := true) [] Tryd.func24 (impl_ChoiceOf.ac _ _ _ _ _ _ hc37) .nil ?_)
              refine L.Y Y.mv ?_
              refine L.Y Y.ex ?_
              refine L.Y Y.ex ?_
              refine L.Y Y.asg ?_
              refine L.Y Y.asg ?_
              refine AList.nil ?_
              refine AWp.seq ?_
              refine W.kp [0, 1, 4, 5, 6, 7, 8, 9, 10, 11, 12, 13, 14, 15, 16, 17, 18, 19, 20, 21, 24, 49, 81, 83, 98, 101] ?_
              refine AWp.region ?_
              refine L.Y Y.mv ?_
              refine L.Y Y.mv ?_
              refine L.Gc (fun hb => ?_) (fun hb => ?_)
              ·
               have hb38 := hb
               try simp only [hS, hE, ne_eq] at hb
               first | rw [if_pos hb38] at h | rw [if_neg (Bool.eq_false_iff.1 hb38)] at h | rw [if_pos hb] at h | rw [if_neg hb] at h | (simp only [hb, hT, reduceIte] at h) | skip
               refine L.Gy hb38 Y.mv ?_
               refine L.Y (Y.pk (c := true) hb38) ?_
               refine L.Y Y.mv ?_
               refine L.Gc (fun hb => ?_) (fun hb => ?_)
               ·
                have hb39 := hb
                try simp only [hS, hE, ne_eq] at hb
                first | rw [if_pos hb39] at h | rw [if_neg (Bool.eq_false_iff.1 hb39)] at h | rw [if_pos hb] at h | rw [if_neg hb] at h | (simp only [hb, hT, reduceIte] at h) | skip
                refine L.Gy hb39 Y.mv ?_
                refine L.Y (Y.pk (c := true) hb39) ?_
                refine L.Y Y.mv ?_
                refine L.Gc (fun hb => ?_) (fun hb => ?_)
                ·
                 have hb40 := hb
                 try simp only [hS, hE, ne_eq] at hb
                 first | rw [if_pos hb40] at h | rw [if_neg (Bool.eq_false_iff.1 hb40)] at h | rw [if_pos hb] at h | rw [if_neg hb] at h | (simp only [hb, hT, reduceIte] at h) | skip
                 refine L.Gy hb40 Y.mv ?_
                 refine L.Gy hb40 Y.mv ?_
                 refine L.Gy hb40 Y.bin ?_
                 refine L.Y (Y.pk (c := true) hb40) ?_
                 refine L.Y Y.asg ?_
                 refine AList.nil ?_
                 refine AWp.ret ?_
                 first | (exfalso; cases h; done) | exact ⟨.inr rfl, [(4, _)], _, ⟨rfl, rfl⟩, IsPart.at [] [] base0 .nil (E.c .nil (hs := Sub.litE (LV h)))⟩
                ·
                 have hb40 := hb
                 try simp only [hS, hE, ne_eq] at hb
                 first | rw [if_pos hb40] at h | rw [if_neg (Bool.eq_false_iff.1 hb40)] at h | rw [if_pos hb] at h | rw [if_neg hb] at h | (simp only [hb, hT, reduceIte] at h) | skip
                 exfalso
                 revert h
                 exact fun h => by simp at h
               ·
                have hb39 := hb
                try simp only [hS, hE, ne_eq] at hb
                first | rw [if_pos hb39] at h | rw [if_neg (Bool.eq_false_iff.1 hb39)] at h | rw [if_pos hb] at h | rw [if_neg hb] at h | (simp only [hb, hT, reduceIte] at h) | skip
                exfalso
                revert h
                exact fun h => by simp at h
              ·
               have hb38 := hb
               try simp only [hS, hE, ne_eq] at hb
               first | rw [if_pos hb38] at h | rw [if_neg (Bool.eq_false_iff.1 hb38)] at h | rw [if_pos hb] at h | rw [if_neg hb] at h | (simp only [hb, hT, reduceIte] at h) | skip
               exfalso
               revert h
               exact fun h => by simp at h
           ·
            have hb19 := hb
            try simp only [hS, hE, ne_eq] at hb
            first | rw [if_pos hb19] at h | rw [if_neg (Bool.eq_false_iff.1 hb19)] at h | rw [if_pos hb] at h | rw [if_neg hb] at h | (simp only [hb, hT, reduceIte] at h) | skip
            refine L.Gn hb19 ?_
            refine L.Gn hb19 ?_
            refine L.Gy hb18 (Y.pk (c := false) hb19) ?_
            refine L.Gy hb18 Y.mv ?_
            refine L.Gc (fun hb => ?_) (fun hb => ?_)
            ·
             first | exact Bool.false_ne_true ((Eq.symm (by assumption)).trans hb) | exact Bool.false_ne_true (hb.symm.trans (by assumption)) | exact DD hb
            have hb41 := hb
            refine L.Gn hb41 ?_
            refine L.Gn hb41 ?_
            refine L.Gy hb18 (Y.pk (c := false) hb41) ?_
            refine L.Y (Y.pk (c := false) hb18) ?_
            refine AList.nil ?_
            rcases k with _ | k
            ·
             exact absurd h (by simp [laws_FnChoicesOfOrders.j2])
            simp only [laws_FnChoicesOfOrders.j2] at h
            refine W.cond (fun hb => ?_) (fun hb => ?_)
            ·
             first | exact Bool.false_ne_true ((Eq.symm (by assumption)).trans hb) | exact Bool.false_ne_true (hb.symm.trans (by assumption)) | exact DD hb
            have hb42 := hb
            try (first | rw [if_pos hb42] at h | rw [if_neg (Bool.eq_false_iff.1 hb42)] at h | rw [if_pos hb] at h | rw [if_neg hb] at h | (simp only [hb, hT, reduceIte] at h) | skip)
            refine AWp.skip ?_
            refine AWp.seq ?_
            refine AWp.seq ?_
            refine W.kp [0, 1, 4, 5, 6, 7, 8, 9, 10, 11, 12, 13, 14, 24, 49, 81, 83, 98] ?_
            refine AWp.region ?_
            refine L.S (S.ldN Tryd.underlying30 Y30) ?_
            replace h := Option.bind_eq_some_iff.1 h
            obtain ⟨t359, hc43, h⟩ := h
            refine L.C (C.callE (l := true) [] Tryd.func29 (impl_IsOrder.ac _ _ _ _ hc43) .nil ?_)
            refine L.Y Y.nt ?_
            refine AList.nil ?_
            refine W.cond (fun hb => ?_) (fun hb => ?_)
            ·
             have hb44 := hb
             try simp only [hS, hE, ne_eq] at hb
             first | rw [if_pos hb44] at h | rw [if_neg (Bool.eq_false_iff.1 hb44)] at h | rw [if_pos hb] at h | rw [if_neg hb] at h | (simp only [hb, hT, reduceIte] at h) | skip
             refine AWp.seq ?_
             refine AWp.region ?_
             refine L.Y Y.asg ?_
             refine AList.nil ?_
             refine AWp.ret ?_
             first | (exfalso; cases h; done) | exact ⟨.inr rfl, [(4, _)], _, ⟨rfl, rfl⟩, IsPart.at [] [] base0 .nil (E.c .nil (hs := Sub.litE (LV h)))⟩
            ·
             have hb44 := hb
             try simp only [hS, hE, ne_eq] at hb
             first | rw [if_pos hb44] at h | rw [if_neg (Bool.eq_false_iff.1 hb44)] at h | rw [if_pos hb] at h | rw [if_neg hb] at h | (simp only [hb, hT, reduceIte] at h) | skip
             refine AWp.skip ?_
             refine AWp.seq ?_
             refine Dt.reg [] [] (.y 0 (.y 2 (.t 3 (.y 4 (.one 1 (.y 5 (.y 6 .done))))))) HM ?_
             refine Dt.Y rfl wantN Y.mv ?_
             refine Dt.Y rfl wantN (Y.fa (off := 0) Tryd.underlying30 Y3) ?_
             refine Dt.T rfl wantN (D.ld Tryd.underlying3) ?_
             replace h := Option.bind_eq_some_iff.1 h
             obtain ⟨t360, hc45, h⟩ := h
             repeat (first | (rw [iN] at h; obtain ⟨_, h⟩ := h) | (rw [iP] at h; obtain ⟨_, h⟩ := h) | (simp only [bS] at h))
             refine Dt.Y rfl wantN Y.bin ?_
             refine Dt.O (g' := false) rfl wantN ?_
             refine Ox.C true [] Tryd.func30 (laws_vNumber.ac _ _ _ hc45) .nil ?_
             refine Dt.Y rfl wantN Y.bin ?_
             refine Dt.Y rfl wantN Y.asg ?_
             refine Dt.nil ?_
             refine AWp.seq ?_
             refine W.kp [0, 1, 4, 5, 6, 7, 8, 9, 10, 11, 12, 13, 14, 15, 24, 49, 81, 83, 98, 101] ?_
             refine AWp.region ?_
             refine L.S (S.ldN Tryd.underlying30 Y30) ?_
             refine L.Y Y.mv ?_
             replace h := Option.bind_eq_some_iff.1 h
             obtain ⟨⟨t361, t362⟩, hc46, h⟩ := h
             dsimp only at h
             refine L.C (C.callE (l := true) [] Tryd.func24 (impl_ChoiceOf.ac _ _ _ _ _ _ hc46) .nil ?_)
             refine L.Y Y.mv ?_
             refine L.Y Y.ex ?_
             refine L.Y Y.ex ?_
             refine L.Y Y.asg ?_
             refine L.Y Y.asg ?_
             refine AList.nil ?_
             refine AWp.seq ?_
             refine W.kp [0, 1, 4, 5, 6, 7, 8, 9, 10, 11, 12, 13, 14, 15, 16, 17, 24, 49, 81, 83, 98, 101] ?_
             refine AWp.region ?_
             refine L.S (S.ldN Tryd.underlying30 Y30) ?_
             refine L.Y Y.mv ?_
             refine L.Y Y.mv ?_
             refine L.Y Y.bin ?_
             replace h := Option.bind_eq_some_iff.1 h
             obtain ⟨⟨t363, t364⟩, hc47, h⟩ := h
             dsimp only at h
             refine L.C (C.callE (l := true) [] Tryd.func24 (impl_ChoiceOf.ac _ _ _ _ _ _ hc47) .nil ?_)
             refine L.Y Y.mv ?_
             refine L.Y Y.ex ?_
             refine L.Y Y.ex ?_
             refine L.Y Y.asg ?_
             refine L.Y Y.asg ?_
             refine AList.nil ?_
             refine AWp.seq ?_
             refine W.kp [0, 1, 4, 5, 6, 7, 8, 9, 10, 11, 12, 13, 14, 15, 16, 17, 18, 19, 24, 49, 81, 83, 98, 101] ?_
             refine AWp.region ?_
             refine L.S (S.ldN Tryd.underlying30 Y30) ?_
             refine L.Y Y.mv ?_
             refine L.Y Y.mv ?_
             refine L.Y Y.bin ?_
             replace h := Option.bind_eq_some_iff.1 h
             obtain ⟨⟨t365, t366⟩, hc48, h⟩ := h
             dsimp only at h
             refine L.C (C.callE (l := true) [] Tryd.func24 (impl_ChoiceOf.ac _ _ _ _ _ _ hc48) .nil ?_)
             refine L.Y Y.mv ?_
             refine L.Y Y.ex ?_
             refine L.Y Y.ex ?_
             refine L.Y Y.asg ?_
             refine L.Y Y.asg ?_
             refine AList.nil ?_
             refine AWp.seq ?_
             refine W.kp [0, 1, 4, 5, 6, 7, 8, 9, 10, 11, 12, 13, 14, 15, 16, 17, 18, 19, 20, 21, 24, 49, 81, 83, 98, 101] ?_
             refine AWp.region ?_
             refine L.Y Y.mv ?_
             refine L.Y Y.mv ?_
             refine L.Gc (fun hb => ?_) (fun hb => ?_)
             ·
              have hb49 := hb
              try simp only [hS, hE, ne_eq] at hb
              first | rw [if_pos hb49] at h | rw [if_neg (Bool.eq_false_iff.1 hb49)] at h | rw [if_pos hb] at h | rw [if_neg hb] at h | (simp only [hb, hT, reduceIte] at h) | skip
              refine L.Gy hb49 Y.mv ?_
              refine L.Y (Y.pk (c := true) hb49) ?_
              refine L.Y Y.mv ?_
              refine L.Gc (fun hb => ?_) (fun hb => ?_)
              ·
               have hb50 := hb
               try simp only [hS, hE, ne_eq] at hb
               first | rw [if_pos hb50] at h | rw [if_neg (Bool.eq_false_iff.1 hb50)] at h | rw [if_pos hb] at h | rw [if_neg hb] at h | (simp only [hb, hT, reduceIte] at h) | skip
               refine L.Gy hb50 Y.mv ?_
               refine L.Y (Y.pk (c := true) hb50) ?_
               refine L.Y Y.mv ?_
               refine L.Gc (fun hb => ?_) (fun hb => ?_)
               ·
                have hb51 := hb
                try simp only [hS, hE, ne_eq] at hb
                first | rw [if_pos hb51] at h | rw [if_neg (Bool.eq_false_iff.1 hb51)] at h | rw [if_pos hb] at h | rw [if_neg hb] at h | (simp only [hb, hT, reduceIte] at h) | skip
                refine L.Gy hb51 Y.mv ?_
                refine L.Gy hb51 Y.mv ?_
                refine L.Gy hb51 Y.bin ?_
                refine L.Y (Y.pk (c := true) hb51) ?_
                refine L.Y Y.asg ?_
                refine AList.nil ?_
                refine AWp.ret ?_
                first | (exfalso; cases h; done) | exact ⟨.inr rfl, [(4, _)], _, ⟨rfl, rfl⟩, IsPart.at [] [] base0 .nil (E.c .nil (hs := Sub.litE (LV h)))⟩
               ·
                have hb51 := hb
                try simp only [hS, hE, ne_eq] at hb
                first | rw [if_pos hb51] at h | rw [if_neg (Bool.eq_false_iff.1 hb51)] at h | rw [if_pos hb] at h | rw [if_neg hb] at h | (simp only [hb, hT, reduceIte] at h) | skip
                exfalso
                revert h
                exact fun h => by simp at h
              ·
               have hb50 := hb
               try simp only [hS, hE, ne_eq] at hb
               first | rw [if_pos hb50] at h | rw [if_neg (Bool.eq_false_iff.1 hb50)] at h | rw [if_pos hb] at h | rw [if_neg hb] at h | (simp only [hb, hT, reduceIte] at h) | skip
               exfalso
               revert h
               exact fun h => by simp at h
             ·
              have hb49 := hb
              try simp only [hS, hE, ne_eq] at hb
              first | rw [if_pos hb49] at h | rw [if_neg (Bool.eq_false_iff.1 hb49)] at h | rw [if_pos hb] at h | rw [if_neg hb] at h | (simp only [hb, hT, reduceIte] at h) | skip
              exfalso
              revert h
              exact fun h => by simp at h
       ·
        have hb15 := hb
        try simp only [hS, hE, ne_eq] at hb
        first | rw [if_pos hb15] at h | rw [if_neg (Bool.eq_false_iff.1 hb15)] at h | rw [if_pos hb] at h | rw [if_neg hb] at h | (simp only [hb, hT, reduceIte] at h) | skip
        refine L.Gn hb15 ?_
        refine L.Gn hb15 ?_
        refine L.Gy hb13 (Y.pk (c := false) hb15) ?_
        refine L.Y (Y.pk (c := false) hb13) ?_
        refine AList.nil ?_
        rcases k with _ | k
        ·
         exact absurd h (by simp [laws_FnChoicesOfOrders.j1])
        simp only [laws_FnChoicesOfOrders.j1] at h
        refine W.cond (fun hb => ?_) (fun hb => ?_)
        ·
         first | exact Bool.false_ne_true ((Eq.symm (by assumption)).trans hb) | exact Bool.false_ne_true (hb.symm.trans (by assumption)) | exact DD hb
        have hb52 := hb
        try (first | rw [if_pos hb52] at h | rw [if_neg (Bool.eq_false_iff.1 hb52)] at h | rw [if_pos hb] at h | rw [if_neg hb] at h | (simp only [hb, hT, reduceIte] at h) | skip)
        refine AWp.skip ?_
        refine AWp.seq ?_
        refine AWp.seq ?_
        refine W.kp [0, 1, 4, 5, 6, 7, 8, 9, 10, 11, 12, 13, 14, 24, 49, 81] ?_
        refine AWp.region ?_
        refine L.Y Y.mv ?_
        refine L.Y Y.nt ?_
        refine AList.nil ?_
        refine W.cond (fun hb => ?_) (fun hb => ?_)
        ·
         have hb53 := hb
         try simp only [hS, hE, ne_eq] at hb
         first | rw [if_pos hb53] at h | rw [if_neg (Bool.eq_false_iff.1 hb53)] at h | rw [if_pos hb] at h | rw [if_neg hb] at h | (simp only [hb, hT, reduceIte] at h) | skip
         refine AWp.seq ?_
         refine AWp.region ?_
         refine L.Y Y.asg ?_
         refine AList.nil ?_
         refine AWp.ret ?_
         first | (exfalso; cases h; done) | exact ⟨.inr rfl, [(4, _)], _, ⟨rfl, rfl⟩, IsPart.at [] [] base0 .nil (E.c .nil (hs := Sub.litE (LV h)))⟩
        ·
         have hb53 := hb
         try simp only [hS, hE, ne_eq] at hb
         first | rw [if_pos hb53] at h | rw [if_neg (Bool.eq_false_iff.1 hb53)] at h | rw [if_pos hb] at h | rw [if_neg hb] at h | (simp only [hb, hT, reduceIte] at h) | skip
         refine AWp.skip ?_
         refine AWp.seq ?_
         refine AWp.seq ?_
         refine AWp.region ?_
         refine L.Y Y.mv ?_
         refine L.Y Y.mv ?_
         refine L.Y Y.bin ?_
         refine L.Y Y.bin ?_
         refine L.Y Y.mv ?_
         refine L.Gc (fun hb => ?_) (fun hb => ?_)
         ·
          have hb54 := hb
          try simp only [hS, hE, ne_eq] at hb
          first | rw [if_pos hb54] at h | rw [if_neg (Bool.eq_false_iff.1 hb54)] at h | rw [if_pos hb] at h | rw [if_neg hb] at h | (simp only [hb, hT, reduceIte] at h) | skip
          exfalso
          revert h
          exact fun h => by cases k <;> simp [laws_FnChoicesOfOrders.j2] at h
         ·
          have hb54 := hb
          try simp only [hS, hE, ne_eq] at hb
          first | rw [if_pos hb54] at h | rw [if_neg (Bool.eq_false_iff.1 hb54)] at h | rw [if_pos hb] at h | rw [if_neg hb] at h | (simp only [hb, hT, reduceIte] at h) | skip
          refine L.Gy hb54 Y.mv ?_
          refine L.Gy hb54 Y.mv ?_
          refine L.Gc (fun hb => ?_) (fun hb => ?_)
          ·
           have hb55 := hb
           try simp only [hS, hE, ne_eq] at hb
           first | rw [if_pos hb55] at h | rw [if_neg (Bool.eq_false_iff.1 hb55)] at h | rw [if_pos hb] at h | rw [if_neg hb] at h | (simp only [hb, hT, reduceIte] at h) | skip
           refine L.Gy hb55 Y.mv ?_
           refine L.Gy hb55 Y.bin ?_
           refine L.Gy hb54 (Y.pk (c := true) hb55) ?_
           refine L.Gy hb54 Y.mv ?_
           refine L.Gc (fun hb => ?_) (fun hb => ?_)
           ·
            have hb56 := hb
            try simp only [hS, hE, ne_eq] at hb
            first | rw [if_pos hb56] at h | rw [if_neg (Bool.eq_false_iff.1 hb56)] at h | rw [if_pos hb] at h | rw [if_neg hb] at h | (simp only [hb, hT, reduceIte] at h) | skip
            refine L.Gy hb56 Y.mv ?_
            refine L.Gy hb56 Y.bin ?_
            refine L.Gy hb54 (Y.pk (c := true) hb56) ?_
            refine L.Y (Y.pk (c := false) hb54) ?_
            refine AList.nil ?_
            rcases k with _ | k
            ·
             exact absurd h (by simp [laws_FnChoicesOfOrders.j2])
            simp only [laws_FnChoicesOfOrders.j2] at h
            refine W.cond (fun hb => ?_) (fun hb => ?_)
            ·
             have hb57 := hb
             try simp only [hS, hE, ne_eq] at hb
             first | rw [if_pos hb57] at h | rw [if_neg (Bool.eq_false_iff.1 hb57)] at h | rw [if_pos hb] at h | rw [if_neg hb] at h | (simp only [hb, hT, reduceIte] at h) | skip
             exfalso
             revert h
             exact fun h => by simp at h
            ·
             have hb57 := hb
             try simp only [hS, hE, ne_eq] at hb
             first | rw [if_pos hb57] at h | rw [if_neg (Bool.eq_false_iff.1 hb57)] at h | rw [if_pos hb] at h | rw [if_neg hb] at h | (simp only [hb, hT, reduceIte] at h) | skip
             refine AWp.skip ?_
             refine AWp.seq ?_
             refine AWp.seq ?_
             refine W.kp [0, 1, 4, 5, 6, 7, 8, 9, 10, 11, 12, 13, 14, 24, 49, 81, 83, 98] ?_
             refine AWp.region ?_
             refine L.S (S.ldN Tryd.underlying30 Y30) ?_
             replace h := Option.bind_eq_some_iff.1 h
             obtain ⟨t359, hc58, h⟩ := h
             refine L.C (C.callE (l := true) [] Tryd.func29 (impl_IsOrder.ac _ _ _ _ hc58) .nil ?_)
             refine L.Y Y.nt ?_
             refine AList.nil ?_
             refine W.cond (fun hb => ?_) (fun hb => ?_)
             ·
              have hb59 := hb
              try simp only [hS, hE, ne_eq] at hb
              first | rw [if_pos hb59] at h | rw [if_neg (Bool.eq_false_iff.1 hb59)] at h | rw [if_pos hb] at h | rw [if_neg hb] at h | (simp only [hb, hT, reduceIte] at h) | skip
              refine AWp.seq ?_
              refine AWp.region ?_
              refine L.Y Y.asg ?_
              refine AList.nil ?_
              refine AWp.ret ?_
              first | (exfalso; cases h; done) | exact ⟨.inr rfl, [(4, _)], _, ⟨rfl, rfl⟩, IsPart.at [] [] base0 .nil (E.c .nil (hs := Sub.litE (LV h)))⟩
             ·
              have hb59 := hb
              try simp only [hS, hE, ne_eq] at hb
              first | rw [if_pos hb59] at h | rw [if_neg (Bool.eq_false_iff.1 hb59)] at h | rw [if_pos hb] at h | rw [if_neg hb] at h | (simp only [hb, hT, reduceIte] at h) | skip
              refine AWp.skip ?_
              refine AWp.seq ?_
              refine Dt.reg [] [] (.y 0 (.y 2 (.t 3 (.y 4 (.one 1 (.y 5 (.y 6 .done))))))) HM ?_
              refine Dt.Y rfl wantN Y.mv ?_
              refine Dt.Y rfl wantN (Y.fa (off := 0) Tryd.underlying30 Y3) ?_
              refine Dt.T rfl wantN (D.ld Tryd.underlying3) ?_
              replace h := Option.bind_eq_some_iff.1 h
              obtain ⟨t360, hc60, h⟩ := h
              repeat (first | (rw [iN] at h; obtain ⟨_, h⟩ := h) | (rw [iP] at h; obtain ⟨_, h⟩ := h) | (simp only [bS] at h))
              refine Dt.Y rfl wantN Y.bin ?_
              refine Dt.O (g' := false) rfl wantN ?_
              refine Ox.C true [] Tryd.func30 (laws_vNumber.ac _ _ _ hc60) .nil ?_
              refine Dt.Y rfl wantN Y.bin ?_
              refine Dt.Y rfl wantN Y.asg ?_
              refine Dt.nil ?_
              refine AWp.seq ?_
              refine W.kp [0, 1, 4, 5, 6, 7, 8, 9, 10, 11, 12, 13, 14, 15, 24, 49, 81, 83, 98, 101] ?_
              refine AWp.region ?_
              refine L.S (S.ldN Tryd.underlying30 Y30) ?_
              refine L.Y Y.mv ?_
              replace h := Option.bind_eq_some_iff.1 h
              obtain ⟨⟨t361, t362⟩, hc61, h⟩ := h
              dsimp only at h
              refine L.C (C.callE (l := true) [] Tryd.func24 (impl_ChoiceOf.ac _ _ _ _ _ _ hc61) .nil ?_)
              refine L.Y Y.mv ?_
              refine L.Y Y.ex ?_
              refine L.Y Y.ex ?_
              refine L.Y Y.asg ?_
              refine L.Y Y.asg ?_
              refine AList.nil ?_
              refine AWp.seq ?_
              refine W.kp [0, 1, 4, 5, 6, 7, 8, 9, 10, 11, 12, 13, 14, 15, 16, 17, 24, 49, 81, 83, 98, 101] ?_
              refine AWp.region ?_
              refine L.S (S.ldN Tryd.underlying30 Y30) ?_
              refine L.Y Y.mv ?_
              refine L.Y Y.mv ?_
              refine L.Y Y.bin ?_
              replace h := Option.bind_eq_some_iff.1 h
              obtain ⟨⟨t363, t364⟩, hc62, h⟩ := h
              dsimp only at h
              refine L.C (C.callE (l := true) [] Tryd.func24 (impl_ChoiceOf.ac _ _ _ _ _ _ hc62) .nil ?_)
              refine L.Y Y.mv ?_
              refine L.Y Y.ex ?_
              refine L.Y Y.ex ?_
              refine L.Y Y.asg ?_
              refine L.Y Y.asg ?_
              refine AList.nil ?_
              refine AWp.seq ?_
              refine W.kp [0, 1, 4, 5, 6, 7, 8, 9, 10, 11, 12, 13, 14, 15, 16, 17, 18, 19, 24, 49, 81, 83, 98, 101] ?_
              refine AWp.region ?_
              refine L.S (S.ldN Tryd.underlying30 Y30) ?_
              refine L.Y Y.mv ?_
              refine L.Y Y.mv ?_
              refine L.Y Y.bin ?_
              replace h := Option.bind_eq_some_iff.1 h
              obtain ⟨⟨t365, t366⟩, hc63, h⟩ := h
              dsimp only at h
              refine L.C (C.callE (l := true) [] Tryd.func24 (impl_ChoiceOf.ac _ _ _ _ _ _ hc63) .nil ?_)
              refine L.Y Y.mv ?_
              refine L.Y Y.ex ?_
              refine L.Y Y.ex ?_
              refine L.Y Y.asg ?_
              refine L.Y Y.asg ?_
              refine AList.nil ?_
              refine AWp.seq ?_
              refine W.kp [0, 1, 4, 5, 6, 7, 8, 9, 10, 11, 12, 13, 14, 15, 16, 17, 18, 19, 20, 21, 24, 49, 81, 83, 98, 101] ?_
              refine AWp.region ?_
              refine L.Y Y.mv ?_
              refine L.Y Y.mv ?_
              refine L.Gc (fun hb => ?_) (fun hb => ?_)
              ·
               have hb64 := hb
               try simp only [hS, hE, ne_eq] at hb
               first | rw [if_pos hb64] at h | rw [if_neg (Bool.eq_false_iff.1 hb64)] at h | rw [if_pos hb] at h | rw [if_neg hb] at h | (simp only [hb, hT, reduceIte] at h) | skip
               refine L.Gy hb64 Y.mv ?_
               refine L.Y (Y.pk (c := true) hb64) ?_
               refine L.Y Y.mv ?_
               refine L.Gc (fun hb => ?_) (fun hb => ?_)
               ·
                have hb65 := hb
                try simp only [hS, hE, ne_eq] at hb
                first | rw [if_pos hb65] at h | rw [if_neg (Bool.eq_false_iff.1 hb65)] at h | rw [if_pos hb] at h | rw [if_neg hb] at h | (simp only [hb, hT, reduceIte] at h) | skip
                refine L.Gy hb65 Y.mv ?_
                refine L.Y (Y.pk (c := true) hb65) ?_
                refine L.Y Y.mv ?_
                refine L.Gc (fun hb => ?_) (fun hb => ?_)
                ·
                 have hb66 := hb
                 try simp only [hS, hE, ne_eq] at hb
                 first | rw [if_pos hb66] at h | rw [if_neg (Bool.eq_false_iff.1 hb66)] at h | rw [if_pos hb] at h | rw [if_neg hb] at h | (simp only [hb, hT, reduceIte] at h) | skip
                 refine L.Gy hb66 Y.mv ?_
                 refine L.Gy hb66 Y.mv ?_
                 refine L.Gy hb66 Y.bin ?_
                 refine L.Y (Y.pk (c := true) hb66) ?_
                 refine L.Y Y.asg ?_
                 refine AList.nil ?_
                 refine AWp.ret ?_
                 first | (exfalso; cases h; done) | exact ⟨.inr rfl, [(4, _)], _, ⟨rfl, rfl⟩, IsPart.at [] [] base0 .nil (E.c .nil (hs := Sub.litE (LV h)))⟩
                ·
                 have hb66 := hb
                 try simp only [hS, hE, ne_eq] at hb
                 first | rw [if_pos hb66] at h | rw [if_neg (Bool.eq_false_iff.1 hb66)] at h | rw [if_pos hb] at h | rw [if_neg hb] at h | (simp only [hb, hT, reduceIte] at h) | skip
                 exfalso
                 revert h
                 exact fun h => by simp at h
               ·
                have hb65 := hb
                try simp only [hS, hE, ne_eq] at hb
                first | rw [if_pos hb65] at h | rw [if_neg (Bool.eq_false_iff.1 hb65)] at h | rw [if_pos hb] at h | rw [if_neg hb] at h | (simp only [hb, hT, reduceIte] at h) | skip
                exfalso
                revert h
                exact fun h => by simp at h
              ·
               have hb64 := hb
               try simp only [hS, hE, ne_eq] at hb
               first | rw [if_pos hb64] at h | rw [if_neg (Bool.eq_false_iff.1 hb64)] at h | rw [if_pos hb] at h | rw [if_neg hb] at h | (simp only [hb, hT, reduceIte] at h) | skip
               exfalso
               revert h
               exact fun h => by simp at h
           ·
            have hb56 := hb
            try simp only [hS, hE, ne_eq] at hb
            first | rw [if_pos hb56] at h | rw [if_neg (Bool.eq_false_iff.1 hb56)] at h | rw [if_pos hb] at h | rw [if_neg hb] at h | (simp only [hb, hT, reduceIte] at h) | skip
            refine L.Gn hb56 ?_
            refine L.Gn hb56 ?_
            refine L.Gy hb54 (Y.pk (c := false) hb56) ?_
            refine L.Y (Y.pk (c := false) hb54) ?_
            refine AList.nil ?_
            rcases k with _ | k
            ·
             exact absurd h (by simp [laws_FnChoicesOfOrders.j2])
            simp only [laws_FnChoicesOfOrders.j2] at h
            refine W.cond (fun hb => ?_) (fun hb => ?_)
            ·
             first | exact Bool.false_ne_true ((Eq.symm (by assumption)).trans hb) | exact Bool.false_ne_true (hb.symm.trans (by assumption)) | exact DD hb
            have hb67 := hb
            try (first | rw [if_pos hb67] at h | rw [if_neg (Bool.eq_false_iff.1 hb67)] at h | rw [if_pos hb] at h | rw [if_neg hb] at h | (simp only [hb, hT, reduceIte] at h) | skip)
            refine AWp.skip ?_
            refine AWp.seq ?_
            refine AWp.seq ?_
            refine W.kp [0, 1, 4, 5, 6, 7, 8, 9, 10, 11, 12, 13, 14, 24, 49, 81, 83, 98] ?_
            refine AWp.region ?_
            refine L.S (S.ldN Tryd.underlying30 Y30) ?_
            replace h := Option.bind_eq_some_iff.1 h
            obtain ⟨t359, hc68, h⟩ := h
            refine L.C (C.callE (l := true) [] Tryd.func29 (impl_IsOrder.ac _ _ _ _ hc68) .nil ?_)
            refine L.Y Y.nt ?_
            refine AList.nil ?_
            refine W.cond (fun hb => ?_) (fun hb => ?_)
            ·
             have hb69 := hb
             try simp only [hS, hE, ne_eq] at hb
             first | rw [if_pos hb69] at h | rw [if_neg (Bool.eq_false_iff.1 hb69)] at h | rw [if_pos hb] at h | rw [if_neg hb] at h | (simp only [hb, hT, reduceIte] at h) | skip
             refine AWp.seq ?_
             refine AWp.region ?_
             refine L.Y Y.asg ?_
             refine AList.nil ?_
             refine AWp.ret ?_
             first | (exfalso; cases h; done) | exact ⟨.inr rfl, [(4, _)], _, ⟨rfl, rfl⟩, IsPart.at [] [] base0 .nil (E.c .nil (hs := Sub.litE (LV h)))⟩
            ·
             have hb69 := hb
             try simp only [hS, hE, ne_eq] at hb
             first | rw [if_pos hb69] at h | rw [if_neg (Bool.eq_false_iff.1 hb69)] at h | rw [if_pos hb] at h | rw [if_neg hb] at h | (simp only [hb, hT, reduceIte] at h) | skip
             refine AWp.skip ?_
             refine AWp.seq ?_
             refine Dt.reg [] [] (.y 0 (.y 2 (.t 3 (.y 4 (.one 1 (.y 5 (.y 6 .done))))))) HM ?_
             refine Dt.Y rfl wantN Y.mv ?_
             refine Dt.Y rfl wantN (Y.fa (off := 0) Tryd.underlying30 Y3) ?_
             refine Dt.T rfl wantN (D.ld Tryd.underlying3) ?_
             replace h := Option.bind_eq_some_iff.1 h
             obtain ⟨t360, hc70, h⟩ := h
             repeat (first | (rw [iN] at h; obtain ⟨_, h⟩ := h) | (rw [iP] at h; obtain ⟨_, h⟩ := h) | (simp only [bS] at h))
             refine Dt.Y rfl wantN Y.bin ?_
             refine Dt.O (g' := false) rfl wantN ?_
             refine Ox.C true [] Tryd.func30 (laws_vNumber.ac _ _ _ hc70) .nil ?_
             refine Dt.Y rfl wantN Y.bin ?_
             refine Dt.Y rfl wantN Y.asg ?_
             refine Dt.nil ?_
             refine AWp.seq ?_
             refine W.kp [0, 1, 4, 5, 6, 7, 8, 9, 10, 11, 12, 13, 14, 15, 24, 49, 81, 83, 98, 101] ?_
             refine AWp.region ?_
             refine L.S (S.ldN Tryd.underlying30 Y30) ?_
             refine L.Y Y.mv ?_
             replace h := Option.bind_eq_some_iff.1 h
             obtain ⟨⟨t361, t362⟩, hc71, h⟩ := h
             dsimp only at h
             refine L.C (C.callE (l := true) [] Tryd.func24 (impl_ChoiceOf.ac _ _ _ _ _ _ hc71) .nil ?_)
             refine L.Y Y.mv ?_
             refine L.Y Y.ex ?_
             refine L.Y Y.ex ?_
             refine L.Y Y.asg ?_
             refine L.Y Y.asg ?_
             refine AList.nil ?_
             refine AWp.seq ?_
             refine W.kp [0, 1, 4, 5, 6, 7, 8, 9, 10, 11, 12, 13, 14, 15, 16, 17, 24, 49, 81, 83, 98, 101] ?_
             refine AWp.region ?_
             refine L.S (S.ldN Tryd.underlying30 Y30) ?_
             refine L.Y Y.mv ?_
             refine L.Y Y.mv ?_
             refine L.Y Y.bin ?_
             replace h := Option.bind_eq_some_iff.1 h
             obtain ⟨⟨t363, t364⟩, hc72, h⟩ := h
             dsimp only at h
             refine L.C (C.callE (l := true) [] Tryd.func24 (impl_ChoiceOf.ac _ _ _ _ _ _ hc72) .nil ?_)
             refine L.Y Y.mv ?_
             refine L.Y Y.ex ?_
             refine L.Y Y.ex ?_
             refine L.Y Y.asg ?_
             refine L.Y Y.asg ?_
             refine AList.nil ?_
             refine AWp.seq ?_
             refine W.kp [0, 1, 4, 5, 6, 7, 8, 9, 10, 11, 12, 13, 14, 15, 16, 17, 18, 19, 24, 49, 81, 83, 98, 101] ?_
             refine AWp.region ?_
             refine L.S (S.ldN Tryd.underlying30 Y30) ?_
             refine L.Y Y.mv ?_
             refine L.Y Y.mv ?_
             refine L.Y Y.bin ?_
             replace h := Option.bind_eq_some_iff.1 h
             obtain ⟨⟨t365, t366⟩, hc73, h⟩ := h
             dsimp only at h
             refine L.C (C.callE (l := true) [] Tryd.func24 (impl_ChoiceOf.ac _ _ _ _ _ _ hc73) .nil ?_)
             refine L.Y Y.mv ?_
             refine L.Y Y.ex ?_
             refine L.Y Y.ex ?_
             refine L.Y Y.asg ?_
             refine L.Y Y.asg ?_
             refine AList.nil ?_
             refine AWp.seq ?_
             refine W.kp [0, 1, 4, 5, 6, 7, 8, 9, 10, 11, 12, 13, 14, 15, 16, 17, 18, 19, 20, 21, 24, 49, 81, 83, 98, 101] ?_
             refine AWp.region ?_
             refine L.Y Y.mv ?_
             refine L.Y Y.mv ?_
             refine L.Gc (fun hb => ?_) (fun hb => ?_)
             ·
              have hb74 := hb
              try simp only [hS, hE, ne_eq] at hb
              first | rw [if_pos hb74] at h | rw [if_neg (Bool.eq_false_iff.1 hb74)] at h | rw [if_pos hb] at h | rw [if_neg hb] at h | (simp only [hb, hT, reduceIte] at h) | skip
              refine L.Gy hb74 Y.mv ?_
              refine L.Y (Y.pk (c := true) hb74) ?_
              refine L.Y Y.mv ?_
              refine L.Gc (fun hb => ?_) (fun hb => ?_)
              ·
               have hb75 := hb
               try simp only [hS, hE, ne_eq] at hb
               first | rw [if_pos hb75] at h | rw [if_neg (Bool.eq_false_iff.1 hb75)] at h | rw [if_pos hb] at h | rw [if_neg hb] at h | (simp only [hb, hT, reduceIte] at h) | skip
               refine L.Gy hb75 Y.mv ?_
               refine L.Y (Y.pk (c := true) hb75) ?_
               refine L.Y Y.mv ?_
               refine L.Gc (fun hb => ?_) (fun hb => ?_)
               ·
                have hb76 := hb
                try simp only [hS, hE, ne_eq] at hb
                first | rw [if_pos hb76] at h | rw [if_neg (Bool.eq_false_iff.1 hb76)] at h | rw [if_pos hb] at h | rw [if_neg hb] at h | (simp only [hb, hT, reduceIte] at h) | skip
                refine L.Gy hb76 Y.mv ?_
                refine L.Gy hb76 Y.mv ?_
                refine L.Gy hb76 Y.bin ?_
                refine L.Y (Y.pk (c := true) hb76) ?_
                refine L.Y Y.asg ?_
                refine AList.nil ?_
                refine AWp.ret ?_
                first | (exfalso; cases h; done) | exact ⟨.inr rfl, [(4, _)], _, ⟨rfl, rfl⟩, IsPart.at [] [] base0 .nil (E.c .nil (hs := Sub.litE (LV h)))⟩
               ·
                have hb76 := hb
                try simp only [hS, hE, ne_eq] at hb
                first | rw [if_pos hb76] at h | rw [if_neg (Bool.eq_false_iff.1 hb76)] at h | rw [if_pos hb] at h | rw [if_neg hb] at h | (simp only [hb, hT, reduceIte] at h) | skip
                exfalso
                revert h
                exact fun h => by simp at h
              ·
               have hb75 := hb
               try simp only [hS, hE, ne_eq] at hb
               first | rw [if_pos hb75] at h | rw [if_neg (Bool.eq_false_iff.1 hb75)] at h | rw [if_pos hb] at h | rw [if_neg hb] at h | (simp only [hb, hT, reduceIte] at h) | skip
               exfalso
               revert h
               exact fun h => by simp at h
             ·
              have hb74 := hb
              try simp only [hS, hE, ne_eq] at hb
              first | rw [if_pos hb74] at h | rw [if_neg (Bool.eq_false_iff.1 hb74)] at h | rw [if_pos hb] at h | rw [if_neg hb] at h | (simp only [hb, hT, reduceIte] at h) | skip
              exfalso
              revert h
              exact fun h => by simp at h
          ·
           have hb55 := hb
           try simp only [hS, hE, ne_eq] at hb
           first | rw [if_pos hb55] at h | rw [if_neg (Bool.eq_false_iff.1 hb55)] at h | rw [if_pos hb] at h | rw [if_neg hb] at h | (simp only [hb, hT, reduceIte] at h) | skip
           refine L.Gn hb55 ?_
           refine L.Gn hb55 ?_
           refine L.Gy hb54 (Y.pk (c := false) hb55) ?_
           refine L.Gy hb54 Y.mv ?_
           refine L.Gc (fun hb => ?_) (fun hb => ?_)
           ·
            first | exact Bool.false_ne_true ((Eq.symm (by assumption)).trans hb) | exact Bool.false_ne_true (hb.symm.trans (by assumption)) | exact DD hb
           have hb77 := hb
           refine L.Gn hb77 ?_
           refine L.Gn hb77 ?_
           refine L.Gy hb54 (Y.pk (c := false) hb77) ?_
           refine L.Y (Y.pk (c := false) hb54) ?_
           refine AList.nil ?_
           rcases k with _ | k
           ·
            exact absurd h (by simp [laws_FnChoicesOfOrders.j2])
           simp only [laws_FnChoicesOfOrders.j2] at h
           refine W.cond (fun hb => ?_) (fun hb => ?_)
           ·
            first | exact Bool.false_ne_true ((Eq.symm (by assumption)).trans hb) | exact Bool.false_ne_true (hb.symm.trans (by assumption)) | exact DD hb
           have hb78 := hb
           try (first | rw [if_pos hb78] at h | rw [if_neg (Bool.eq_false_iff.1 hb78)] at h | rw [if_pos hb] at h | rw [if_neg hb] at h | (simp only [hb, hT, reduceIte] at h) | skip)
           refine AWp.skip ?_
           refine AWp.seq ?_
           refine AWp.seq ?_
           refine W.kp [0, 1, 4, 5, 6, 7, 8, 9, 10, 11, 12, 13, 14, 24, 49, 81, 83, 98] ?_
           refine AWp.region ?_
           refine L.S (S.ldN Tryd.underlying30 Y30) ?_
           replace h := Option.bind_eq_some_iff.1 h
           obtain ⟨t359, hc79, h⟩ := h
           refine L.C (C.callE (l := true) [] Tryd.func29 (impl_IsOrder.ac _ _ _ _ hc79) .nil ?_)
           refine L.Y Y.nt ?_
           refine AList.nil ?_
           refine W.cond (fun hb => ?_) (fun hb => ?_)
           ·
            have hb80 := hb
            try simp only [hS, hE, ne_eq] at hb
            first | rw [if_pos hb80] at h | rw [if_neg (Bool.eq_false_iff.1 hb80)] at h | rw [if_pos hb] at h | rw [if_neg hb] at h | (simp only [hb, hT, reduceIte] at h) | skip
            refine AWp.seq ?_
            refine AWp.region ?_
            refine L.Y Y.asg ?_
            refine AList.nil ?_
            refine AWp.ret ?_
            first | (exfalso; cases h; done) | exact ⟨.inr rfl, [(4, _)], _, ⟨rfl, rfl⟩, IsPart.at [] [] base0 .nil (E.c .nil (hs := Sub.litE (LV h)))⟩
           ·
            have hb80 := hb
            try simp only [hS, hE, ne_eq] at hb
            first | rw [if_pos hb80] at h | rw [if_neg (Bool.eq_false_iff.1 hb80)] at h | rw [if_pos hb] at h | rw [if_neg hb] at h | (simp only [hb, hT, reduceIte] at h) | skip
            refine AWp.skip ?_
            refine AWp.seq ?_
            refine Dt.reg [] [] (.y 0 (.y 2 (.t 3 (.y 4 (.one 1 (.y 5 (.y 6 .done))))))) HM ?_
            refine Dt.Y rfl wantN Y.mv ?_
            refine Dt.Y rfl wantN (Y.fa (off := 0) Tryd.underlying30 Y3) ?_
            refine Dt.T rfl wantN (D.ld Tryd.underlying3) ?_
            replace h := Option.bind_eq_some_iff.1 h
            obtain ⟨t360, hc81, h⟩ := h
            repeat (first | (rw [iN] at h; obtain ⟨_, h⟩ := h) | (rw [iP] at h; obtain ⟨_, h⟩ := h) | (simp only [bS] at h))
            refine Dt.Y rfl wantN Y.bin ?_
            refine Dt.O (g' := false) rfl wantN ?_
            refine Ox.C true [] Tryd.func30 (laws_vNumber.ac _ _ _ hc81) .nil ?_
            refine Dt.Y rfl wantN Y.bin ?_
            refine Dt.Y rfl wantN Y.asg ?_
            refine Dt.nil ?_
            refine AWp.seq ?_
            refine W.kp [0, 1, 4, 5, 6, 7, 8, 9, 10, 11, 12, 13, 14, 15, 24, 49, 81, 83, 98, 101] ?_
            refine AWp.region ?_
            refine L.S (S.ldN Tryd.underlying30 Y30) ?_
            refine L.Y Y.mv ?_
            replace h := Option.bind_eq_some_iff.1 h
            obtain ⟨⟨t361, t362⟩, hc82, h⟩ := h
            dsimp only at h
            refine L.C (C.callE (l := true) [] Tryd.func24 (impl_ChoiceOf.ac _ _ _ _ _ _ hc82) .nil ?_)
            refine L.Y Y.mv ?_
            refine L.Y Y.ex ?_
            refine L.Y Y.ex ?_
            refine L.Y Y.asg ?_
            refine L.Y Y.asg ?_
            refine AList.nil ?_
            refine AWp.seq ?_
            refine W.kp [0, 1, 4, 5, 6, 7, 8, 9, 10, 11, 12, 13, 14, 15, 16, 17, 24, 49, 81, 83, 98, 101] ?_
            refine AWp.region ?_
            refine L.S (S.ldN Tryd.underlying30 Y30) ?_
            refine L.Y Y.mv ?_
            refine L.Y Y.mv ?_
            refine L.Y Y.bin ?_
            replace h := Option.bind_eq_some_iff.1 h
            obtain ⟨⟨t363, t364⟩, hc83, h⟩ := h
            dsimp only at h
            refine L.C (C.callE (l := true) [] Tryd.func24 (impl_ChoiceOf.ac _ _ _ _ _ _ hc83) .nil ?_)
            refine L.Y Y.mv ?_
            refine L.Y Y.ex ?_
            refine L.Y Y.ex ?_
            refine L.Y Y.asg ?_
            refine L.Y Y.asg ?_
            refine AList.nil ?_
            refine AWp.seq ?_
            refine W.kp [0, 1, 4, 5, 6, 7, 8, 9, 10, 11, 12, 13, 14, 15, 16, 17, 18, 19, 24, 49, 81, 83, 98, 101] ?_
            refine AWp.region ?_
            refine L.S (S.ldN Tryd.underlying30 Y30) ?_
            refine L.Y Y.mv ?_
            refine L.Y Y.mv ?_
            refine L.Y Y.bin ?_
            replace h := Option.bind_eq_some_iff.1 h
            obtain ⟨⟨t365, t366⟩, hc84, h⟩ := h
            dsimp only at h
            refine L.C (C.callE (l := true) [] Tryd.func24 (impl_ChoiceOf.ac _ _ _ _ _ _ hc84) .nil ?_)
            refine L.Y Y.mv ?_
            refine L.Y Y.ex ?_
            refine L.Y Y.ex ?_
            refine L.Y Y.asg ?_
            refine L.Y Y.asg ?_
            refine AList.nil ?_
            refine AWp.seq ?_
            refine W.kp [0, 1, 4, 5, 6, 7, 8, 9, 10, 11, 12, 13, 14, 15, 16, 17, 18, 19, 20, 21, 24, 49, 81, 83, 98, 101] ?_
            refine AWp.region ?_
            refine L.Y Y.mv ?_
            refine L.Y Y.mv ?_
            refine L.Gc (fun hb => ?_) (fun hb => ?_)
            ·
             have hb85 := hb
             try simp only [hS, hE, ne_eq] at hb
             first | rw [if_pos hb85] at h | rw [if_neg (Bool.eq_false_iff.1 hb85)] at h | rw [if_pos hb] at h | rw [if_neg hb] at h | (simp only [hb, hT, reduceIte] at h) | skip
             refine L.Gy hb85 Y.mv ?_
             refine L.Y (Y.pk (c := true) hb85) ?_
             refine L.Y Y.mv ?_
             refine L.Gc (fun hb => ?_) (fun hb => ?_)
             ·
              have hb86 := hb
              try simp only [hS, hE, ne_eq] at hb
              first | rw [if_pos hb86] at h | rw [if_neg (Bool.eq_false_iff.1 hb86)] at h | rw [if_pos hb] at h | rw [if_neg hb] at h | (simp only [hb, hT, reduceIte] at h) | skip
              refine L.Gy hb86 Y.mv ?_
              refine L.Y (Y.pk (c := true) hb86) ?_
              refine L.Y Y.mv ?_
              refine L.Gc (fun hb => ?_) (fun hb => ?_)
              ·
               have hb87 := hb
               try simp only [hS, hE, ne_eq] at hb
               first | rw [if_pos hb87] at h | rw [if_neg (Bool.eq_false_iff.1 hb87)] at h | rw [if_pos hb] at h | rw [if_neg hb] at h | (simp only [hb, hT, reduceIte] at h) | skip
               refine L.Gy hb87 Y.mv ?_
               refine L.Gy hb87 Y.mv ?_
               refine L.Gy hb87 Y.bin ?_
               refine L.Y (Y.pk (c := true) hb87) ?_
               refine L.Y Y.asg ?_
               refine AList.nil ?_
               refine AWp.ret ?_
               first | (exfalso; cases h; done) | exact ⟨.inr rfl, [(4, _)], _, ⟨rfl, rfl⟩, IsPart.at [] [] base0 .nil (E.c .nil (hs := Sub.litE (LV h)))⟩
              ·
               have hb87 := hb
               try simp only [hS, hE, ne_eq] at hb
               first | rw [if_pos hb87] at h | rw [if_neg (Bool.eq_false_iff.1 hb87)] at h | rw [if_pos hb] at h | rw [if_neg hb] at h | (simp only [hb, hT, reduceIte] at h) | skip
               exfalso
               revert h
               exact fun h => by simp at h
             ·
              have hb86 := hb
              try simp only [hS, hE, ne_eq] at hb
              first | rw [if_pos hb86] at h | rw [if_neg (Bool.eq_false_iff.1 hb86)] at h | rw [if_pos hb] at h | rw [if_neg hb] at h | (simp only [hb, hT, reduceIte] at h) | skip
              exfalso
              revert h
              exact fun h => by simp at h
            ·
             have hb85 := hb
             try simp only [hS, hE, ne_eq] at hb
             first | rw [if_pos hb85] at h | rw [if_neg (Bool.eq_false_iff.1 hb85)] at h | rw [if_pos hb] at h | rw [if_neg hb] at h | (simp only [hb, hT, reduceIte] at h) | skip
             exfalso
             revert h
             exact fun h => by simp at h

/-- THE ONE PURE STATEMENT of laws_FnChoicesOfOrders: yours. -/
def laws_FnChoicesOfOrders.Pure : Prop := ∀ (l0 : List Int) (l1 : List Int), l0.length ≤ maxLen → l0.length * 1 ≤ 140737488351232 → (∀ x ∈ l0, (Lit.int .u8 x).wf = true) → l1.length ≤ maxLen → l1.length * 1 ≤ 140737488351232 → (∀ x ∈ l1, (Lit.int .u8 x).wf = true) → ∃ k, laws_FnChoicesOfOrders.f k l0 l1 = some true
theorem laws_FnChoicesOfOrders.walk (P : laws_FnChoicesOfOrders.Pure) (a0 : Option Addr) (len0 cap0 : Nat) (z0 : List Int) (a1 : Option Addr) (len1 cap1 : Nat) (z1 : List Int) (w : World) (hT : TabIn w) (w0 : (a0 = none ∧ len0 = 0 ∧ cap0 = 0 ∧ z0 = []) ∨ ∃ x, a0 = some x ∧ len0 ≤ cap0 ∧ cap0 ≤ maxLen ∧ z0.length = cap0 ∧ (∀ i, i < z0.length → w.cell? (x.add i) = some (.int .u8 (z0.getD i 0))) ∧ ∀ n ∈ z0, (Lit.int .u8 n).wf = true) (y0 : len0 * 1 ≤ 140737488351232) (w1 : (a1 = none ∧ len1 = 0 ∧ cap1 = 0 ∧ z1 = []) ∨ ∃ x, a1 = some x ∧ len1 ≤ cap1 ∧ cap1 ≤ maxLen ∧ z1.length = cap1 ∧ (∀ i, i < z1.length → w.cell? (x.add i) = some (.int .u8 (z1.getD i 0))) ∧ ∀ n ∈ z1, (Lit.int .u8 n).wf = true) (y1 : len1 * 1 ≤ 140737488351232) :
  Calls Tryd.prog 4 #[.slice a0 len0 cap0, .slice a1 len1 cap1] w fun e w' => e = .returned (.bool true) ∧ Below w.heap.size w w' := by
 obtain ⟨hl0, hv0⟩ := VR.came (A0 := fun _ => .bool false) (H := []) w0
 obtain ⟨hm0, hw0⟩ := came_fits w0
 have y0' := y0
 rw [← hl0] at y0'
 obtain ⟨hl1, hv1⟩ := VR.came (A0 := fun _ => .bool false) (H := []) w1
 obtain ⟨hm1, hw1⟩ := came_fits w1
 have y1' := y1
 rw [← hl1] at y1'
 obtain ⟨k, h⟩ := P (z0.take len0) (z1.take len1) hm0 y0' hw0 hm1 y1' hw1
 refine ACalls.law (vs := [.slice a0 len0 cap0, .slice a1 len1 cap1]) (tabP_of hT) (laws_FnChoicesOfOrders.ac k (z0.take len0) (z1.take len1) h) ?_
 repeat' first | assumption | exact VRs_nil | exact VR_lit | refine VRs_cons ?_ ?_ | refine VR_agg ?_

end Go.Proofs.YtpippjgphndjmaaDoor.PFnChoicesOfOrders
