-- Written by a program of this session's (wip/myprint2): the functions by the kit's print, the walks by awgen.py. Lean checks it.
import Derived.Test.YtpippjgphndjmaaDoorPFnChoicesOfOrdersx0
import Derived.Test.YtpippjgphndjmaaDoorPFnChoicesOfOrdersx1
import Derived.Test.YtpippjgphndjmaaDoorPFnChoicesOfOrdersx4
import Derived.Test.YtpippjgphndjmaaDoorPFnChoicesOfOrdersx5
import Derived.Test.YtpippjgphndjmaaDoorPFnChoicesOfOrdersx6
import Derived.Test.YtpippjgphndjmaaDoorPFnChoicesOfOrdersx7
namespace Go.Proofs.YtpippjgphndjmaaDoor.PFnChoicesOfOrders
open Go.RowKit Go.Proofs.YtpippjgphndjmaaDoorW.PrintWords Go.Proofs.YtpippjgphndjmaaDoorW.PrintLast Go.Proofs.YtpippjgphndjmaaDoorW.PrintMore Go.Proofs.YtpippjgphndjmaaDoorM Go.Proofs.YtpippjgphndjmaaDoorA Go.Proofs.YtpippjgphndjmaaDoorT
attribute [local go_sem] max2_int min2_int max_two min_two max_three min_three max_four min_four   -- for this text's walks alone
set_option linter.unusedVariables false
set_option linter.unusedSimpArgs false

/-! ### laws_FnChoicesOfOrders: function 4 -/
mutual
def laws_FnChoicesOfOrders.j0 : Nat → List Int → Int → Int → Bool → Bool → Int → List Int → Option (Bool)
 | 0, _, _, _, _, _, _, _ => none
 | k + 1, x1, x6, x7, x8, x49, x349000, x349001 => if x49 = true then (some false) else ((impl_IsAcyclic.f k x349000 x349001).bind fun bt353 => ((spec_IsAcyclic.f k x349000 x349001).bind fun bt355 => (if (bt353.2 != bt355.2) = true then (laws_FnChoicesOfOrders.j1 k x1 x6 x7 x8 bt353.1 true x349000 x349001) else (if (bt353.1 != bt355.1) = true then (laws_FnChoicesOfOrders.j1 k x1 x6 x7 x8 bt353.1 true x349000 x349001) else ((impl_IsRelation.f k x349000 x349001).bind fun t357 => (if (bt353.2 != t357) = true then (laws_FnChoicesOfOrders.j1 k x1 x6 x7 x8 bt353.1 true x349000 x349001) else ((impl_IsOrder.f k x349000 x349001).bind fun t358 => (if t358 = true then (laws_FnChoicesOfOrders.j1 k x1 x6 x7 x8 bt353.1 (!bt353.1) x349000 x349001) else (laws_FnChoicesOfOrders.j1 k x1 x6 x7 x8 bt353.1 false x349000 x349001)))))))))
def laws_FnChoicesOfOrders.j1 : Nat → List Int → Int → Int → Bool → Bool → Bool → Int → List Int → Option (Bool)
 | 0, _, _, _, _, _, _, _, _ => none
 | k + 1, x1, x6, x7, x8, x11, x81, x349000, x349001 => if x81 = true then (some false) else (if x8 = true then (if (Go.bits .andNot .i64 x7 x6) = 0 then (if x11 = true then (if x6 = 0 then (laws_FnChoicesOfOrders.j2 k x1 x6 x7 false x349000 x349001) else (laws_FnChoicesOfOrders.j2 k x1 x6 x7 (x7 == 0) x349000 x349001)) else (laws_FnChoicesOfOrders.j2 k x1 x6 x7 false x349000 x349001)) else (laws_FnChoicesOfOrders.j2 k x1 x6 x7 true x349000 x349001)) else (some true))
def laws_FnChoicesOfOrders.j2 : Nat → List Int → Int → Int → Bool → Int → List Int → Option (Bool)
 | 0, _, _, _, _, _, _ => none
 | k + 1, x1, x6, x7, x98, x349000, x349001 => if x98 = true then (some false) else ((impl_IsOrder.f k x349000 x349001).bind fun t359 => (if t359 = true then ((laws_vNumber.f k x1).bind fun t360 => (if 0 ≤ x349000 then (if (shl .i64 1 x349000) = 0 then (none) else ((impl_ChoiceOf.f k x349000 x349001 (Int.tmod t360 (shl .i64 1 x349000))).bind fun bt361 => ((impl_ChoiceOf.f k x349000 x349001 (Go.bits .or .i64 x6 (Int.tmod t360 (shl .i64 1 x349000)))).bind fun bt363 => ((impl_ChoiceOf.f k x349000 x349001 (Go.bits .or .i64 x7 bt361.1)).bind fun bt365 => (if bt361.2 = true then (if bt363.2 = true then (if bt365.2 = true then (some (bt363.1 == bt365.1)) else (some false)) else (some false)) else (some false)))))) else (none))) else (some true)))
end
def laws_FnChoicesOfOrders.f (k : Nat) (l0 : List Int) (l1 : List Int) : Option (Bool) := (laws_big.f l0 l1).bind fun t342 => (if t342 = true then (some true) else ((spec_DrawChoiceOf.f k l0).bind fun bt343 => ((impl_ChoiceOf.f k bt343.1 bt343.2.1 bt343.2.2).bind fun bt349 => ((spec_ChoiceOf.f k bt343.1 bt343.2.1 bt343.2.2).bind fun bt351 => (if (bt349.2 != bt351.2) = true then (laws_FnChoicesOfOrders.j0 k l1 bt343.2.2 bt349.1 bt349.2 true bt343.1 bt343.2.1) else (laws_FnChoicesOfOrders.j0 k l1 bt343.2.2 bt349.1 bt349.2 (bt349.1 != bt351.1) bt343.1 bt343.2.1))))))
theorem laws_FnChoicesOfOrders.mono_l : ∀ k, (∀ y0 y1 y2 y3 y4 y5 y6, LeO (laws_FnChoicesOfOrders.j0 k y0 y1 y2 y3 y4 y5 y6) (laws_FnChoicesOfOrders.j0 (k + 1) y0 y1 y2 y3 y4 y5 y6)) ∧ (∀ y0 y1 y2 y3 y4 y5 y6 y7, LeO (laws_FnChoicesOfOrders.j1 k y0 y1 y2 y3 y4 y5 y6 y7) (laws_FnChoicesOfOrders.j1 (k + 1) y0 y1 y2 y3 y4 y5 y6 y7)) ∧ (∀ y0 y1 y2 y3 y4 y5, LeO (laws_FnChoicesOfOrders.j2 k y0 y1 y2 y3 y4 y5) (laws_FnChoicesOfOrders.j2 (k + 1) y0 y1 y2 y3 y4 y5))
 | 0 => ⟨fun _ _ _ _ _ _ _ r h => by simp [laws_FnChoicesOfOrders.j0] at h, fun _ _ _ _ _ _ _ _ r h => by simp [laws_FnChoicesOfOrders.j1] at h, fun _ _ _ _ _ _ r h => by simp [laws_FnChoicesOfOrders.j2] at h⟩
 | k + 1 => by
  obtain ⟨ih0, ih1, ih2⟩ := laws_FnChoicesOfOrders.mono_l k
  refine ⟨?_, ?_, ?_⟩
  ·
   intro y0 y1 y2 y3 y4 y5 y6
   unfold laws_FnChoicesOfOrders.j0
   repeat' first
   | (with_reducible exact ih0 _ _ _ _ _ _ _)
   | (with_reducible exact ih1 _ _ _ _ _ _ _ _)
   | (with_reducible exact ih2 _ _ _ _ _ _)
   | (with_reducible exact impl_ChoiceOf.mono _ _ _ _)
   | (with_reducible exact impl_IsAcyclic.mono _ _ _)
   | (with_reducible exact impl_IsOrder.mono _ _ _)
   | (with_reducible exact impl_IsRelation.mono _ _ _)
   | (with_reducible exact laws_vNumber.mono _ _)
   | (with_reducible exact spec_ChoiceOf.mono _ _ _ _)
   | (with_reducible exact spec_DrawChoiceOf.mono _ _)
   | (with_reducible exact spec_IsAcyclic.mono _ _ _)
   | (with_reducible exact LeO.refl _)
   | (with_reducible exact LeO.none _)
   | (with_reducible refine LeO.ite ?_ ?_)
   | (with_reducible refine LeO.bind ?_ (fun _ => ?_))
   | exact ih0 _ _ _ _ _ _ _
   | exact ih1 _ _ _ _ _ _ _ _
   | exact ih2 _ _ _ _ _ _
   | exact impl_ChoiceOf.mono _ _ _ _
   | exact impl_IsAcyclic.mono _ _ _
   | exact impl_IsOrder.mono _ _ _
   | exact impl_IsRelation.mono _ _ _
   | exact laws_vNumber.mono _ _
   | exact spec_ChoiceOf.mono _ _ _ _
   | exact spec_DrawChoiceOf.mono _ _
   | exact spec_IsAcyclic.mono _ _ _
   | exact LeO.none _
   | refine LeO.ite ?_ ?_
   | refine LeO.bind ?_ (fun _ => ?_)
  ·
   intro y0 y1 y2 y3 y4 y5 y6 y7
   unfold laws_FnChoicesOfOrders.j1
   repeat' first
   | (with_reducible exact ih0 _ _ _ _ _ _ _)
   | (with_reducible exact ih1 _ _ _ _ _ _ _ _)
   | (with_reducible exact ih2 _ _ _ _ _ _)
   | (with_reducible exact impl_ChoiceOf.mono _ _ _ _)
   | (with_reducible exact impl_IsAcyclic.mono _ _ _)
   | (with_reducible exact impl_IsOrder.mono _ _ _)
   | (with_reducible exact impl_IsRelation.mono _ _ _)
   | (with_reducible exact laws_vNumber.mono _ _)
   | (with_reducible exact spec_ChoiceOf.mono _ _ _ _)
   | (with_reducible exact spec_DrawChoiceOf.mono _ _)
   | (with_reducible exact spec_IsAcyclic.mono _ _ _)
   | (with_reducible exact LeO.refl _)
   | (with_reducible exact LeO.none _)
   | (with_reducible refine LeO.ite ?_ ?_)
   | (with_reducible refine LeO.bind ?_ (fun _ => ?_))
   | exact ih0 _ _ _ _ _ _ _
   | exact ih1 _ _ _ _ _ _ _ _
   | exact ih2 _ _ _ _ _ _
   | exact impl_ChoiceOf.mono _ _ _ _
   | exact impl_IsAcyclic.mono _ _ _
   | exact impl_IsOrder.mono _ _ _
   | exact impl_IsRelation.mono _ _ _
   | exact laws_vNumber.mono _ _
   | exact spec_ChoiceOf.mono _ _ _ _
   | exact spec_DrawChoiceOf.mono _ _
   | exact spec_IsAcyclic.mono _ _ _
   | exact LeO.none _
   | refine LeO.ite ?_ ?_
   | refine LeO.bind ?_ (fun _ => ?_)
  ·
   intro y0 y1 y2 y3 y4 y5
   unfold laws_FnChoicesOfOrders.j2
   repeat' first
   | (with_reducible exact ih0 _ _ _ _ _ _ _)
   | (with_reducible exact ih1 _ _ _ _ _ _ _ _)
   | (with_reducible exact ih2 _ _ _ _ _ _)
   | (with_reducible exact impl_ChoiceOf.mono _ _ _ _)
   | (with_reducible exact impl_IsAcyclic.mono _ _ _)
   | (with_reducible exact impl_IsOrder.mono _ _ _)
   | (with_reducible exact impl_IsRelation.mono _ _ _)
   | (with_reducible exact laws_vNumber.mono _ _)
   | (with_reducible exact spec_ChoiceOf.mono _ _ _ _)
   | (with_reducible exact spec_DrawChoiceOf.mono _ _)
   | (with_reducible exact spec_IsAcyclic.mono _ _ _)
   | (with_reducible exact LeO.refl _)
   | (with_reducible exact LeO.none _)
   | (with_reducible refine LeO.ite ?_ ?_)
   | (with_reducible refine LeO.bind ?_ (fun _ => ?_))
   | exact ih0 _ _ _ _ _ _ _
   | exact ih1 _ _ _ _ _ _ _ _
   | exact ih2 _ _ _ _ _ _
   | exact impl_ChoiceOf.mono _ _ _ _
   | exact impl_IsAcyclic.mono _ _ _
   | exact impl_IsOrder.mono _ _ _
   | exact impl_IsRelation.mono _ _ _
   | exact laws_vNumber.mono _ _
   | exact spec_ChoiceOf.mono _ _ _ _
   | exact spec_DrawChoiceOf.mono _ _
   | exact spec_IsAcyclic.mono _ _ _
   | exact LeO.none _
   | refine LeO.ite ?_ ?_
   | refine LeO.bind ?_ (fun _ => ?_)
theorem laws_FnChoicesOfOrders.mono : ∀ a0 a1 k, LeO (laws_FnChoicesOfOrders.f k a0 a1) (laws_FnChoicesOfOrders.f (k + 1) a0 a1) := by
 intro a0 a1 k
 obtain ⟨ih0, ih1, ih2⟩ := laws_FnChoicesOfOrders.mono_l k
 unfold laws_FnChoicesOfOrders.f
 repeat' first
   | (with_reducible exact ih0 _ _ _ _ _ _ _)
   | (with_reducible exact ih1 _ _ _ _ _ _ _ _)
   | (with_reducible exact ih2 _ _ _ _ _ _)
   | (with_reducible exact impl_ChoiceOf.mono _ _ _ _)
   | (with_reducible exact impl_IsAcyclic.mono _ _ _)
   | (with_reducible exact impl_IsOrder.mono _ _ _)
   | (with_reducible exact impl_IsRelation.mono _ _ _)
   | (with_reducible exact laws_vNumber.mono _ _)
   | (with_reducible exact spec_ChoiceOf.mono _ _ _ _)
   | (with_reducible exact spec_DrawChoiceOf.mono _ _)
   | (with_reducible exact spec_IsAcyclic.mono _ _ _)
   | (with_reducible exact LeO.refl _)
   | (with_reducible exact LeO.none _)
   | (with_reducible refine LeO.ite ?_ ?_)
   | (with_reducible refine LeO.bind ?_ (fun _ => ?_))
   | exact ih0 _ _ _ _ _ _ _
   | exact ih1 _ _ _ _ _ _ _ _
   | exact ih2 _ _ _ _ _ _
   | exact impl_ChoiceOf.mono _ _ _ _
   | exact impl_IsAcyclic.mono _ _ _
   | exact impl_IsOrder.mono _ _ _
   | exact impl_IsRelation.mono _ _ _
   | exact laws_vNumber.mono _ _
   | exact spec_ChoiceOf.mono _ _ _ _
   | exact spec_DrawChoiceOf.mono _ _
   | exact spec_IsAcyclic.mono _ _ _
   | exact LeO.none _
   | refine LeO.ite ?_ ?_
   | refine LeO.bind ?_ (fun _ => ?_)
set_option maxRecDepth 100000 in
set_option maxHeartbeats 20000000 in
theorem laws_FnChoicesOfOrders.ac (k : Nat) (l0 : List Int) (l1 : List Int)  (h : laws_FnChoicesOfOrders.f k l0 l1 = some true) :
  ACalls Tryd.prog 4 [.row 1 l0.length false (ints .u8 l0), .row 1 l1.length false (ints .u8 l1)] [] (fun v H' => v = .lit (.bool true) ∧ H' = []) := by
 refine ACalls.ofP [4] Tryd.func4 rfl (by exact Nat.le_of_ble_eq_true rfl) rfl (by decide) ?_
 simp only [Tryd.ntmps4, env0, laws_FnChoicesOfOrders.f] at h ⊢
 pl_ h
 refine AWp.seq ?_
 refine AWp.region ?_
 refine L.Y Y.asg ?_
 refine AList.nil ?_
 refine AWp.seq ?_
 refine AWp.seq ?_
 refine AWp.region ?_
 refine L.Y Y.mv ?_
 refine L.Y Y.mv ?_
 pl_ h
 obtain ⟨t342, hc1, h⟩ := Option.bind_eq_some_iff.1 h
 pl_ h
 refine L.C (C.callE (l := true) [] Tryd.func22 (laws_big.ac _ _ _ hc1) .nil ?_)
 refine AList.nil ?_
 refine W.cond (fun hb => ?_) (fun hb => ?_)
 ·
  have hb2 := hb
  sb_ hb
  rw_ hb2 hb h
  pl_ h
  refine AWp.seq ?_
  refine AWp.region ?_
  refine L.Y Y.asg ?_
  refine AList.nil ?_
  pl_ h
  refine AWp.ret ?_
  first | (exfalso; cases h; done) | exact ⟨.inr rfl, [(4, _)], _, ⟨rfl, rfl⟩, IsPart.at [] [] base0 .nil (E.c .nil (hs := Sub.litE (by lv_ h)))⟩
 ·
  have hb2 := hb
  sb_ hb
  rw_ hb2 hb h
  pl_ h
  refine AWp.skip ?_
  refine AWp.seq ?_
  refine AWp.region ?_
  refine L.Y Y.mv ?_
  pl_ h
  obtain ⟨⟨t343, t344, t347⟩, hc3, h⟩ := Option.bind_eq_some_iff.1 h
  dsimp only at h
  pl_ h
  refine L.C (C.callE (l := true) [] Tryd.func23 (spec_DrawChoiceOf.ac _ _ _ _ _ hc3) .nil ?_)
  refine L.Y Y.mv ?_
  refine L.Y Y.ex ?_
  refine L.Y Y.ex ?_
  refine L.M (M.al Y30) ?_
  refine L.S (S.stb Y30) ?_
  refine L.Y Y.asg ?_
  refine AList.nil ?_
  refine AWp.seq ?_
  refine W.kp [0, 1, 4, 5, 6, 24] ?_
  refine AWp.region ?_
  refine L.S (S.ldN Tryd.underlying30 Y30) ?_
  refine L.Y Y.mv ?_
  pl_ h
  obtain ⟨⟨t349, t350⟩, hc4, h⟩ := Option.bind_eq_some_iff.1 h
  dsimp only at h
  pl_ h
  refine L.C (C.callE (l := true) [] Tryd.func24 (impl_ChoiceOf.ac _ _ _ _ _ _ hc4) .nil ?_)
  refine L.Y Y.mv ?_
  refine L.Y Y.ex ?_
  refine L.Y Y.ex ?_
  refine L.Y Y.asg ?_
  refine L.Y Y.asg ?_
  refine AList.nil ?_
  refine AWp.seq ?_
  refine W.kp [0, 1, 4, 5, 6, 7, 8, 24] ?_
  refine AWp.region ?_
  refine L.S (S.ldN Tryd.underlying30 Y30) ?_
  refine L.Y Y.mv ?_
  pl_ h
  obtain ⟨⟨t351, t352⟩, hc5, h⟩ := Option.bind_eq_some_iff.1 h
  dsimp only at h
  pl_ h
  refine L.C (C.callE (l := true) [] Tryd.func25 (spec_ChoiceOf.ac _ _ _ _ _ _ hc5) .nil ?_)
  refine L.Y Y.mv ?_
  refine L.Y Y.ex ?_
  refine L.Y Y.ex ?_
  refine L.Y Y.asg ?_
  refine L.Y Y.asg ?_
  refine AList.nil ?_
  refine AWp.seq ?_
  refine AWp.seq ?_
  refine W.kp [0, 1, 4, 5, 6, 7, 8, 9, 10, 24] ?_
  refine AWp.region ?_
  refine L.Y Y.mv ?_
  refine L.Y Y.mv ?_
  refine L.Y (Y.bb Tryd.underlying4) ?_
  refine L.Y Y.mv ?_
  refine L.Gc (fun hb => ?_) (fun hb => ?_)
  ·
   have hb6 := hb
   sb_ hb
   rw_ hb6 hb h
   pl_ h
   refine L.Gn hb6 ?_
   refine L.Gn hb6 ?_
   refine L.Gn hb6 ?_
   refine L.Y (Y.pk (c := true) hb6) ?_
   refine AList.nil ?_
   rcases k with _ | k
   ·
    exact absurd h (by simp [laws_FnChoicesOfOrders.j0])
   simp only [laws_FnChoicesOfOrders.j0] at h
   pl_ h
   refine W.cond (fun hb => ?_) (fun hb => ?_)
   rotate_left
   ·
    dd_ hb
   have hb7 := hb
   try (rw_ hb7 hb h)
   pl_ h
   refine AWp.seq ?_
   refine W.kp [0, 1, 4, 5, 6, 7, 8, 9, 10, 24, 49] ?_
   refine AWp.region ?_
   refine L.Y Y.asg ?_
   refine AList.nil ?_
   pl_ h
   refine AWp.ret ?_
   first | (exfalso; cases h; done) | exact ⟨.inr rfl, [(4, _)], _, ⟨rfl, rfl⟩, IsPart.at [] [] base0 .nil (E.c .nil (hs := Sub.litE (by lv_ h)))⟩
  ·
   have hb6 := hb
   sb_ hb
   rw_ hb6 hb h
   pl_ h
   refine L.Gy hb6 Y.mv ?_
   refine L.Gy hb6 Y.mv ?_
   refine L.Gy hb6 Y.bin ?_
   refine L.Y (Y.pk (c := false) hb6) ?_
   refine AList.nil ?_
   rcases k with _ | k
   ·
    exact absurd h (by simp [laws_FnChoicesOfOrders.j0])
   simp only [laws_FnChoicesOfOrders.j0] at h
   pl_ h
   refine W.cond (fun hb => ?_) (fun hb => ?_)
   ·
    have hb8 := hb
    sb_ hb
    rw_ hb8 hb h
    pl_ h
    refine AWp.seq ?_
    refine W.kp [0, 1, 4, 5, 6, 7, 8, 9, 10, 24, 49] ?_
    refine AWp.region ?_
    refine L.Y Y.asg ?_
    refine AList.nil ?_
    pl_ h
    refine AWp.ret ?_
    first | (exfalso; cases h; done) | exact ⟨.inr rfl, [(4, _)], _, ⟨rfl, rfl⟩, IsPart.at [] [] base0 .nil (E.c .nil (hs := Sub.litE (by lv_ h)))⟩
   ·
    have hb8 := hb
    sb_ hb
    rw_ hb8 hb h
    pl_ h
    refine AWp.skip ?_
    refine AWp.seq ?_
    refine W.kp [0, 1, 4, 5, 6, 7, 8, 9, 10, 24, 49] ?_
    refine AWp.region ?_
    refine L.S (S.ldN Tryd.underlying30 Y30) ?_
    pl_ h
    obtain ⟨⟨t353, t354⟩, hc9, h⟩ := Option.bind_eq_some_iff.1 h
    dsimp only at h
    pl_ h
    refine L.C (C.callE (l := true) [] Tryd.func26 (impl_IsAcyclic.ac _ _ _ _ _ hc9) .nil ?_)
    refine L.Y Y.mv ?_
    refine L.Y Y.ex ?_
    refine L.Y Y.ex ?_
    refine L.Y Y.asg ?_
    refine L.Y Y.asg ?_
    refine AList.nil ?_
    refine AWp.seq ?_
    refine W.kp [0, 1, 4, 5, 6, 7, 8, 9, 10, 11, 12, 24, 49] ?_
    refine AWp.region ?_
    refine L.S (S.ldN Tryd.underlying30 Y30) ?_
    pl_ h
    obtain ⟨⟨t355, t356⟩, hc10, h⟩ := Option.bind_eq_some_iff.1 h
    dsimp only at h
    pl_ h
    refine L.C (C.callE (l := true) [] Tryd.func27 (spec_IsAcyclic.ac _ _ _ _ _ hc10) .nil ?_)
    refine L.Y Y.mv ?_
    refine L.Y Y.ex ?_
    refine L.Y Y.ex ?_
    refine L.Y Y.asg ?_
    refine L.Y Y.asg ?_
    refine AList.nil ?_
    refine AWp.seq ?_
    refine AWp.seq ?_
    refine W.kp [0, 1, 4, 5, 6, 7, 8, 9, 10, 11, 12, 13, 14, 24, 49] ?_
    refine AWp.region ?_
    refine L.Y Y.mv ?_
    refine L.Y Y.mv ?_
    refine L.Y (Y.bb Tryd.underlying4) ?_
    refine L.Y Y.mv ?_
    refine L.Gc (fun hb => ?_) (fun hb => ?_)
    ·
     have hb11 := hb
     sb_ hb
     rw_ hb11 hb h
     pl_ h
     refine L.Gn hb11 ?_
     refine L.Gn hb11 ?_
     refine L.Gn hb11 ?_
     refine L.Y (Y.pk (c := true) hb11) ?_
     refine L.Y Y.mv ?_
     refine L.Gc (fun hb => ?_) (fun hb => ?_)
     rotate_left
     ·
      dd_ hb
     have hb12 := hb
     refine L.Gn hb12 ?_
     refine L.Gn hb12 ?_
     refine L.Gn hb12 ?_
     refine L.Gn hb12 ?_
     refine L.Y (Y.pk (c := true) hb12) ?_
     refine L.Y Y.mv ?_
     refine L.Gc (fun hb => ?_) (fun hb => ?_)
     rotate_left
     ·
      dd_ hb
     have hb13 := hb
     refine L.Gn hb13 ?_
     refine L.Gn hb13 ?_
     refine L.Gn hb13 ?_
     refine L.Nu ?_
     refine L.Nu ?_
     refine L.Gn hb13 ?_
     refine L.Y (Y.pk (c := true) hb13) ?_
     refine AList.nil ?_
     rcases k with _ | k
     ·
      exact absurd h (by simp [laws_FnChoicesOfOrders.j1])
     simp only [laws_FnChoicesOfOrders.j1] at h
     pl_ h
     refine W.cond (fun hb => ?_) (fun hb => ?_)
     rotate_left
     ·
      dd_ hb
     have hb14 := hb
     try (rw_ hb14 hb h)
     pl_ h
     refine AWp.seq ?_
     refine W.kp [0, 1, 4, 5, 6, 7, 8, 9, 10, 11, 12, 13, 14, 24, 49, 81] ?_
     refine AWp.region ?_
     refine L.Y Y.asg ?_
     refine AList.nil ?_
     pl_ h
     refine AWp.ret ?_
     first | (exfalso; cases h; done) | exact ⟨.inr rfl, [(4, _)], _, ⟨rfl, rfl⟩, IsPart.at [] [] base0 .nil (E.c .nil (hs := Sub.litE (by lv_ h)))⟩
    ·
     have hb11 := hb
     sb_ hb
     rw_ hb11 hb h
     pl_ h
     refine L.Gy hb11 Y.mv ?_
     refine L.Gy hb11 Y.mv ?_
     refine L.Gy hb11 (Y.bb Tryd.underlying4) ?_
     refine L.Y (Y.pk (c := false) hb11) ?_
     refine L.Y Y.mv ?_
     refine L.Gc (fun hb => ?_) (fun hb => ?_)
     ·
      have hb15 := hb
      sb_ hb
      rw_ hb15 hb h
      pl_ h
      refine L.Gn hb15 ?_
      refine L.Gn hb15 ?_
      refine L.Gn hb15 ?_
      refine L.Gn hb15 ?_
      refine L.Y (Y.pk (c := true) hb15) ?_
      refine L.Y Y.mv ?_
      refine L.Gc (fun hb => ?_) (fun hb => ?_)
      rotate_left
      ·
       dd_ hb
      have hb16 := hb
      refine L.Gn hb16 ?_
      refine L.Gn hb16 ?_
      refine L.Gn hb16 ?_
      refine L.Nu ?_
      refine L.Nu ?_
      refine L.Gn hb16 ?_
      refine L.Y (Y.pk (c := true) hb16) ?_
      refine AList.nil ?_
      rcases k with _ | k
      ·
       exact absurd h (by simp [laws_FnChoicesOfOrders.j1])
      simp only [laws_FnChoicesOfOrders.j1] at h
      pl_ h
      refine W.cond (fun hb => ?_) (fun hb => ?_)
      rotate_left
      ·
       dd_ hb
      have hb17 := hb
      try (rw_ hb17 hb h)
      pl_ h
      refine AWp.seq ?_
      refine W.kp [0, 1, 4, 5, 6, 7, 8, 9, 10, 11, 12, 13, 14, 24, 49, 81] ?_
      refine AWp.region ?_
      refine L.Y Y.asg ?_
      refine AList.nil ?_
      pl_ h
      refine AWp.ret ?_
      first | (exfalso; cases h; done) | exact ⟨.inr rfl, [(4, _)], _, ⟨rfl, rfl⟩, IsPart.at [] [] base0 .nil (E.c .nil (hs := Sub.litE (by lv_ h)))⟩
     ·
      have hb15 := hb
      sb_ hb
      rw_ hb15 hb h
      pl_ h
      refine L.Gy hb15 Y.mv ?_
      refine L.Gs hb15 (S.ldN Tryd.underlying30 Y30) ?_
      pl_ h
      obtain ⟨t357, hc18, h⟩ := Option.bind_eq_some_iff.1 h
      pl_ h
      refine L.GC hb15 (C.callE (l := true) [] Tryd.func28 (impl_IsRelation.ac _ _ _ _ hc18) .nil ?_)
      refine L.Gy hb15 (Y.bb Tryd.underlying4) ?_
      refine L.Y (Y.pk (c := false) hb15) ?_
      refine L.Y Y.mv ?_
      refine L.Gc (fun hb => ?_) (fun hb => ?_)
      ·
       have hb19 := hb
       sb_ hb
       rw_ hb19 hb h
       pl_ h
       refine L.Gn hb19 ?_
       refine L.Gn hb19 ?_
       refine L.Gn hb19 ?_
       refine L.Nu ?_
       refine L.Nu ?_
       refine L.Gn hb19 ?_
       refine L.Y (Y.pk (c := true) hb19) ?_
       refine AList.nil ?_
       rcases k with _ | k
       ·
        exact absurd h (by simp [laws_FnChoicesOfOrders.j1])
       simp only [laws_FnChoicesOfOrders.j1] at h
       pl_ h
       refine W.cond (fun hb => ?_) (fun hb => ?_)
       rotate_left
       ·
        dd_ hb
       have hb20 := hb
       try (rw_ hb20 hb h)
       pl_ h
       refine AWp.seq ?_
       refine W.kp [0, 1, 4, 5, 6, 7, 8, 9, 10, 11, 12, 13, 14, 24, 49, 81] ?_
       refine AWp.region ?_
       refine L.Y Y.asg ?_
       refine AList.nil ?_
       pl_ h
       refine AWp.ret ?_
       first | (exfalso; cases h; done) | exact ⟨.inr rfl, [(4, _)], _, ⟨rfl, rfl⟩, IsPart.at [] [] base0 .nil (E.c .nil (hs := Sub.litE (by lv_ h)))⟩
      ·
       have hb19 := hb
       sb_ hb
       rw_ hb19 hb h
       pl_ h
       refine L.Gs hb19 (S.ldN Tryd.underlying30 Y30) ?_
       pl_ h
       obtain ⟨t358, hc21, h⟩ := Option.bind_eq_some_iff.1 h
       pl_ h
       refine L.GC hb19 (C.callE (l := true) [] Tryd.func29 (impl_IsOrder.ac _ _ _ _ hc21) .nil ?_)
       refine L.Gy hb19 Y.mv ?_
       refine L.Gc (fun hb => ?_) (fun hb => ?_)
       ·
        have hb22 := hb
        sb_ hb
        rw_ hb22 hb h
        pl_ h
        refine L.Gy hb22 Y.mv ?_
        refine L.Gy hb22 Y.nt ?_
        refine L.Gy hb19 (Y.pk (c := true) hb22) ?_
        refine L.Y (Y.pk (c := false) hb19) ?_
        refine AList.nil ?_
        rcases k with _ | k
        ·
         exact absurd h (by simp [laws_FnChoicesOfOrders.j1])
        simp only [laws_FnChoicesOfOrders.j1] at h
        pl_ h
        refine W.cond (fun hb => ?_) (fun hb => ?_)
        ·
         have hb23 := hb
         sb_ hb
         rw_ hb23 hb h
         pl_ h
         refine AWp.seq ?_
         refine W.kp [0, 1, 4, 5, 6, 7, 8, 9, 10, 11, 12, 13, 14, 24, 49, 81] ?_
         refine AWp.region ?_
         refine L.Y Y.asg ?_
         refine AList.nil ?_
         pl_ h
         refine AWp.ret ?_
         first | (exfalso; cases h; done) | exact ⟨.inr rfl, [(4, _)], _, ⟨rfl, rfl⟩, IsPart.at [] [] base0 .nil (E.c .nil (hs := Sub.litE (by lv_ h)))⟩
        ·
         have hb23 := hb
         sb_ hb
         rw_ hb23 hb h
         pl_ h
         refine AWp.skip ?_
         refine AWp.seq ?_
         refine AWp.seq ?_
         refine W.kp [0, 1, 4, 5, 6, 7, 8, 9, 10, 11, 12, 13, 14, 24, 49, 81] ?_
         refine AWp.region ?_
         refine L.Y Y.mv ?_
         refine L.Y Y.nt ?_
         refine AList.nil ?_
         refine W.cond (fun hb => ?_) (fun hb => ?_)
         ·
          have hb24 := hb
          sb_ hb
          rw_ hb24 hb h
          pl_ h
          refine AWp.seq ?_
          refine AWp.region ?_
          refine L.Y Y.asg ?_
          refine AList.nil ?_
          pl_ h
          refine AWp.ret ?_
          first | (exfalso; cases h; done) | exact ⟨.inr rfl, [(4, _)], _, ⟨rfl, rfl⟩, IsPart.at [] [] base0 .nil (E.c .nil (hs := Sub.litE (by lv_ h)))⟩
         ·
          have hb24 := hb
          sb_ hb
          rw_ hb24 hb h
          pl_ h
          refine AWp.skip ?_
          refine AWp.seq ?_
          refine AWp.seq ?_
          refine AWp.region ?_
          refine L.Y Y.mv ?_
          refine L.Y Y.mv ?_
          refine L.Y Y.bin ?_
          refine L.Y Y.bin ?_
          refine L.Y Y.mv ?_
          refine L.Gc (fun hb => ?_) (fun hb => ?_)
          ·
           have hb25 := hb
           sb_ hb
           rw_ hb25 hb h
           pl_ h
           refine L.Gn hb25 ?_
           refine L.Gn hb25 ?_
           refine L.Nu ?_
           refine L.Nu ?_
           refine L.Gn hb25 ?_
           refine L.Gn hb25 ?_
           refine L.Nu ?_
           refine L.Nu ?_
           refine L.Gn hb25 ?_
           refine L.Y (Y.pk (c := true) hb25) ?_
           refine AList.nil ?_
           rcases k with _ | k
           ·
            exact absurd h (by simp [laws_FnChoicesOfOrders.j2])
           simp only [laws_FnChoicesOfOrders.j2] at h
           pl_ h
           refine W.cond (fun hb => ?_) (fun hb => ?_)
           rotate_left
           ·
            dd_ hb
           have hb26 := hb
           try (rw_ hb26 hb h)
           pl_ h
           refine AWp.seq ?_
           refine W.kp [0, 1, 4, 5, 6, 7, 8, 9, 10, 11, 12, 13, 14, 24, 49, 81, 83, 98] ?_
           refine AWp.region ?_
           refine L.Y Y.asg ?_
           refine AList.nil ?_
           pl_ h
           refine AWp.ret ?_
           first | (exfalso; cases h; done) | exact ⟨.inr rfl, [(4, _)], _, ⟨rfl, rfl⟩, IsPart.at [] [] base0 .nil (E.c .nil (hs := Sub.litE (by lv_ h)))⟩
          ·
           have hb25 := hb
           sb_ hb
           rw_ hb25 hb h
           pl_ h
           refine L.Gy hb25 Y.mv ?_
           refine L.Gy hb25 Y.mv ?_
           refine L.Gc (fun hb => ?_) (fun hb => ?_)
           ·
            have hb27 := hb
            sb_ hb
            rw_ hb27 hb h
            pl_ h
            refine L.Gy hb27 Y.mv ?_
            refine L.Gy hb27 Y.bin ?_
            refine L.Gy hb25 (Y.pk (c := true) hb27) ?_
            refine L.Gy hb25 Y.mv ?_
            refine L.Gc (fun hb => ?_) (fun hb => ?_)
            ·
             have hb28 := hb
             sb_ hb
             rw_ hb28 hb h
             pl_ h
             refine L.Gy hb28 Y.mv ?_
             refine L.Gy hb28 Y.bin ?_
             refine L.Gy hb25 (Y.pk (c := true) hb28) ?_
             refine L.Y (Y.pk (c := false) hb25) ?_
             refine AList.nil ?_
             rcases k with _ | k
             ·
              exact absurd h (by simp [laws_FnChoicesOfOrders.j2])
             simp only [laws_FnChoicesOfOrders.j2] at h
             pl_ h
             refine W.cond (fun hb => ?_) (fun hb => ?_)
             ·
              have hb29 := hb
              sb_ hb
              rw_ hb29 hb h
              pl_ h
              refine AWp.seq ?_
              refine W.kp [0, 1, 4, 5, 6, 7, 8, 9, 10, 11, 12, 13, 14, 24, 49, 81, 83, 98] ?_
              refine AWp.region ?_
              refine L.Y Y.asg ?_
              refine AList.nil ?_
              pl_ h
              refine AWp.ret ?_
              first | (exfalso; cases h; done) | exact ⟨.inr rfl, [(4, _)], _, ⟨rfl, rfl⟩, IsPart.at [] [] base0 .nil (E.c .nil (hs := Sub.litE (by lv_ h)))⟩
             ·
              have hb29 := hb
              sb_ hb
              rw_ hb29 hb h
              pl_ h
              refine AWp.skip ?_
              refine AWp.seq ?_
              refine AWp.seq ?_
              refine W.kp [0, 1, 4, 5, 6, 7, 8, 9, 10, 11, 12, 13, 14, 24, 49, 81, 83, 98] ?_
              refine AWp.region ?_
              refine L.S (S.ldN Tryd.underlying30 Y30) ?_
              pl_ h
              obtain ⟨t359, hc30, h⟩ := Option.bind_eq_some_iff.1 h
              pl_ h
              refine L.C (C.callE (l := true) [] Tryd.func29 (impl_IsOrder.ac _ _ _ _ hc30) .nil ?_)
              refine L.Y Y.nt ?_
              refine AList.nil ?_
              refine W.cond (fun hb => ?_) (fun hb => ?_)
              ·
               have hb31 := hb
               sb_ hb
               rw_ hb31 hb h
               pl_ h
               refine AWp.seq ?_
               refine AWp.region ?_
               refine L.Y Y.asg ?_
               refine AList.nil ?_
               pl_ h
               refine AWp.ret ?_
               first | (exfalso; cases h; done) | exact ⟨.inr rfl, [(4, _)], _, ⟨rfl, rfl⟩, IsPart.at [] [] base0 .nil (E.c .nil (hs := Sub.litE (by lv_ h)))⟩
              ·
               have hb31 := hb
               sb_ hb
               rw_ hb31 hb h
               pl_ h
               refine AWp.skip ?_
               refine AWp.seq ?_
               refine Dt.reg [] [] (.y 0 (.y 2 (.t 3 (.y 4 (.one 1 (.y 5 (.y 6 .done))))))) HM ?_
               refine Dt.Y rfl wantN Y.mv ?_
               refine Dt.Y rfl wantN (Y.fa (off := 0) Tryd.underlying30 Y3) ?_
               refine Dt.T rfl wantN (D.ld Tryd.underlying3) ?_
               pl_ h
               obtain ⟨t360, hc32, h⟩ := Option.bind_eq_some_iff.1 h
               pl_ h
               refine Dt.Y rfl wantN Y.bin ?_
               refine Dt.O (g' := false) rfl wantN ?_
               refine Ox.C true [] Tryd.func30 (laws_vNumber.ac _ _ _ hc32) .nil ?_
               refine Dt.Y rfl wantN Y.bin ?_
               refine Dt.Y rfl wantN Y.asg ?_
               refine Dt.nil ?_
               refine AWp.seq ?_
               refine W.kp [0, 1, 4, 5, 6, 7, 8, 9, 10, 11, 12, 13, 14, 15, 24, 49, 81, 83, 98, 101] ?_
               refine AWp.region ?_
               refine L.S (S.ldN Tryd.underlying30 Y30) ?_
               refine L.Y Y.mv ?_
               pl_ h
               obtain ⟨⟨t361, t362⟩, hc33, h⟩ := Option.bind_eq_some_iff.1 h
               dsimp only at h
               pl_ h
               refine L.C (C.callE (l := true) [] Tryd.func24 (impl_ChoiceOf.ac _ _ _ _ _ _ hc33) .nil ?_)
               refine L.Y Y.mv ?_
               refine L.Y Y.ex ?_
               refine L.Y Y.ex ?_
               refine L.Y Y.asg ?_
               refine L.Y Y.asg ?_
               refine AList.nil ?_
               refine AWp.seq ?_
               refine W.kp [0, 1, 4, 5, 6, 7, 8, 9, 10, 11, 12, 13, 14, 15, 16, 17, 24, 49, 81, 83, 98, 101] ?_
               refine AWp.region ?_
               refine L.S (S.ldN Tryd.underlying30 Y30) ?_
               refine L.Y Y.mv ?_
               refine L.Y Y.mv ?_
               refine L.Y Y.bin ?_
               pl_ h
               obtain ⟨⟨t363, t364⟩, hc34, h⟩ := Option.bind_eq_some_iff.1 h
               dsimp only at h
               pl_ h
               refine L.C (C.callE (l := true) [] Tryd.func24 (impl_ChoiceOf.ac _ _ _ _ _ _ hc34) .nil ?_)
               refine L.Y Y.mv ?_
               refine L.Y Y.ex ?_
               refine L.Y Y.ex ?_
               refine L.Y Y.asg ?_
               refine L.Y Y.asg ?_
               refine AList.nil ?_
               refine AWp.seq ?_
               refine W.kp [0, 1, 4, 5, 6, 7, 8, 9, 10, 11, 12, 13, 14, 15, 16, 17, 18, 19, 24, 49, 81, 83, 98, 101] ?_
               refine AWp.region ?_
               refine L.S (S.ldN Tryd.underlying30 Y30) ?_
               refine L.Y Y.mv ?_
               refine L.Y Y.mv ?_
               refine L.Y Y.bin ?_
               pl_ h
               obtain ⟨⟨t365, t366⟩, hc35, h⟩ := Option.bind_eq_some_iff.1 h
               dsimp only at h
               pl_ h
               refine L.C (C.callE (l := true) [] Tryd.func24 (impl_ChoiceOf.ac _ _ _ _ _ _ hc35) .nil ?_)
               refine L.Y Y.mv ?_
               refine L.Y Y.ex ?_
               refine L.Y Y.ex ?_
               refine L.Y Y.asg ?_
               refine L.Y Y.asg ?_
               refine AList.nil ?_
               refine AWp.seq ?_
               refine W.kp [0, 1, 4, 5, 6, 7, 8, 9, 10, 11, 12, 13, 14, 15, 16, 17, 18, 19, 20, 21, 24, 49, 81, 83, 98, 101] ?_
               refine AWp.region ?_
               refine L.Y Y.mv ?_
               refine L.Y Y.mv ?_
               refine L.Gc (fun hb => ?_) (fun hb => ?_)
               ·
                have hb36 := hb
                sb_ hb
                rw_ hb36 hb h
                pl_ h
                refine L.Gy hb36 Y.mv ?_
                refine L.Y (Y.pk (c := true) hb36) ?_
                refine L.Y Y.mv ?_
                refine L.Gc (fun hb => ?_) (fun hb => ?_)
                ·
                 have hb37 := hb
                 sb_ hb
                 rw_ hb37 hb h
                 pl_ h
                 refine L.Gy hb37 Y.mv ?_
                 refine L.Y (Y.pk (c := true) hb37) ?_
                 refine L.Y Y.mv ?_
                 refine L.Gc (fun hb => ?_) (fun hb => ?_)
                 ·
                  have hb38 := hb
                  sb_ hb
                  rw_ hb38 hb h
                  pl_ h
                  refine L.Gy hb38 Y.mv ?_
                  refine L.Gy hb38 Y.mv ?_
                  refine L.Gy hb38 Y.bin ?_
                  refine L.Y (Y.pk (c := true) hb38) ?_
                  refine L.Y Y.asg ?_
                  refine AList.nil ?_
                  pl_ h
                  refine AWp.ret ?_
                  first | (exfalso; cases h; done) | exact ⟨.inr rfl, [(4, _)], _, ⟨rfl, rfl⟩, IsPart.at [] [] base0 .nil (E.c .nil (hs := Sub.litE (by lv_ h)))⟩
                 ·
                  have hb38 := hb
                  sb_ hb
                  rw_ hb38 hb h
                  pl_ h
                  refine L.Gn hb38 ?_
                  refine L.Gn hb38 ?_
                  refine L.Gn hb38 ?_
                  refine L.Y (Y.pk (c := false) hb38) ?_
                  refine L.Y Y.asg ?_
                  refine AList.nil ?_
                  pl_ h
                  refine AWp.ret ?_
                  first | (exfalso; cases h; done) | exact ⟨.inr rfl, [(4, _)], _, ⟨rfl, rfl⟩, IsPart.at [] [] base0 .nil (E.c .nil (hs := Sub.litE (by lv_ h)))⟩
                ·
                 have hb37 := hb
                 sb_ hb
                 rw_ hb37 hb h
                 pl_ h
                 refine L.Gn hb37 ?_
                 refine L.Y (Y.pk (c := false) hb37) ?_
                 refine L.Y Y.mv ?_
                 refine L.Gc (fun hb => ?_) (fun hb => ?_)
                 ·
                  dd_ hb
                 have hb39 := hb
                 refine L.Gn hb39 ?_
                 refine L.Gn hb39 ?_
                 refine L.Gn hb39 ?_
                 refine L.Y (Y.pk (c := false) hb39) ?_
                 refine L.Y Y.asg ?_
                 refine AList.nil ?_
                 pl_ h
                 refine AWp.ret ?_
                 first | (exfalso; cases h; done) | exact ⟨.inr rfl, [(4, _)], _, ⟨rfl, rfl⟩, IsPart.at [] [] base0 .nil (E.c .nil (hs := Sub.litE (by lv_ h)))⟩
               ·
                have hb36 := hb
                sb_ hb
                rw_ hb36 hb h
                pl_ h
                refine L.Gn hb36 ?_
                refine L.Y (Y.pk (c := false) hb36) ?_
                refine L.Y Y.mv ?_
                refine L.Gc (fun hb => ?_) (fun hb => ?_)
                ·
                 dd_ hb
                have hb40 := hb
                refine L.Gn hb40 ?_
                refine L.Y (Y.pk (c := false) hb40) ?_
                refine L.Y Y.mv ?_
                refine L.Gc (fun hb => ?_) (fun hb => ?_)
                ·
                 dd_ hb
                have hb41 := hb
                refine L.Gn hb41 ?_
                refine L.Gn hb41 ?_
                refine L.Gn hb41 ?_
                refine L.Y (Y.pk (c := false) hb41) ?_
                refine L.Y Y.asg ?_
                refine AList.nil ?_
                pl_ h
                refine AWp.ret ?_
                first | (exfalso; cases h; done) | exact ⟨.inr rfl, [(4, _)], _, ⟨rfl, rfl⟩, IsPart.at [] [] base0 .nil (E.c .nil (hs := Sub.litE (by lv_ h)))⟩
            ·
             have hb28 := hb
             sb_ hb
             rw_ hb28 hb h
             pl_ h
             refine L.Gn hb28 ?_
             refine L.Gn hb28 ?_
             refine L.Gy hb25 (Y.pk (c := false) hb28) ?_
             refine L.Y (Y.pk (c := false) hb25) ?_
             refine AList.nil ?_
             rcases k with _ | k
             ·
              exact absurd h (by simp [laws_FnChoicesOfOrders.j2])
             simp only [laws_FnChoicesOfOrders.j2] at h
             pl_ h
             refine W.cond (fun hb => ?_) (fun hb => ?_)
             ·
              dd_ hb
             have hb42 := hb
             try (rw_ hb42 hb h)
             pl_ h
             refine AWp.skip ?_
             refine AWp.seq ?_
             refine AWp.seq ?_
             refine W.kp [0, 1, 4, 5, 6, 7, 8, 9, 10, 11, 12, 13, 14, 24, 49, 81, 83, 98] ?_
             refine AWp.region ?_
             refine L.S (S.ldN Tryd.underlying30 Y30) ?_
             pl_ h
             obtain ⟨t359, hc43, h⟩ := Option.bind_eq_some_iff.1 h
             pl_ h
             refine L.C (C.callE (l := true) [] Tryd.func29 (impl_IsOrder.ac _ _ _ _ hc43) .nil ?_)
             refine L.Y Y.nt ?_
             refine AList.nil ?_
             refine W.cond (fun hb => ?_) (fun hb => ?_)
             ·
              have hb44 := hb
              sb_ hb
              rw_ hb44 hb h
              pl_ h
              refine AWp.seq ?_
              refine AWp.region ?_
              refine L.Y Y.asg ?_
              refine AList.nil ?_
              pl_ h
              refine AWp.ret ?_
              first | (exfalso; cases h; done) | exact ⟨.inr rfl, [(4, _)], _, ⟨rfl, rfl⟩, IsPart.at [] [] base0 .nil (E.c .nil (hs := Sub.litE (by lv_ h)))⟩
             ·
              have hb44 := hb
              sb_ hb
              rw_ hb44 hb h
              pl_ h
              refine AWp.skip ?_
              refine AWp.seq ?_
              refine Dt.reg [] [] (.y 0 (.y 2 (.t 3 (.y 4 (.one 1 (.y 5 (.y 6 .done))))))) HM ?_
              refine Dt.Y rfl wantN Y.mv ?_
              refine Dt.Y rfl wantN (Y.fa (off := 0) Tryd.underlying30 Y3) ?_
              refine Dt.T rfl wantN (D.ld Tryd.underlying3) ?_
              pl_ h
              obtain ⟨t360, hc45, h⟩ := Option.bind_eq_some_iff.1 h
              pl_ h
              refine Dt.Y rfl wantN Y.bin ?_
              refine Dt.O (g' := false) rfl wantN ?_
              refine Ox.C true [] Tryd.func30 (laws_vNumber.ac _ _ _ hc45) .nil ?_
              refine Dt.Y rfl wantN Y.bin ?_
              refine Dt.Y rfl wantN Y.asg ?_
              refine Dt.nil ?_
              refine AWp.seq ?_
              refine W.kp [0, 1, 4, 5, 6, 7, 8, 9, 10, 11, 12, 13, 14, 15, 24, 49, 81, 83, 98, 101] ?_
              refine AWp.region ?_
              refine L.S (S.ldN Tryd.underlying30 Y30) ?_
              refine L.Y Y.mv ?_
              pl_ h
              obtain ⟨⟨t361, t362⟩, hc46, h⟩ := Option.bind_eq_some_iff.1 h
              dsimp only at h
              pl_ h
              refine L.C (C.callE (l := true) [] Tryd.func24 (impl_ChoiceOf.ac _ _ _ _ _ _ hc46) .nil ?_)
              refine L.Y Y.mv ?_
              refine L.Y Y.ex ?_
              refine L.Y Y.ex ?_
              refine L.Y Y.asg ?_
              refine L.Y Y.asg ?_
              refine AList.nil ?_
              refine AWp.seq ?_
              refine W.kp [0, 1, 4, 5, 6, 7, 8, 9, 10, 11, 12, 13, 14, 15, 16, 17, 24, 49, 81, 83, 98, 101] ?_
              refine AWp.region ?_
              refine L.S (S.ldN Tryd.underlying30 Y30) ?_
              refine L.Y Y.mv ?_
              refine L.Y Y.mv ?_
              refine L.Y Y.bin ?_
              pl_ h
              obtain ⟨⟨t363, t364⟩, hc47, h⟩ := Option.bind_eq_some_iff.1 h
              dsimp only at h
              pl_ h
              refine L.C (C.callE (l := true) [] Tryd.func24 (impl_ChoiceOf.ac _ _ _ _ _ _ hc47) .nil ?_)
              refine L.Y Y.mv ?_
              refine L.Y Y.ex ?_
              refine L.Y Y.ex ?_
              refine L.Y Y.asg ?_
              refine L.Y Y.asg ?_
              refine AList.nil ?_
              refine AWp.seq ?_
              refine W.kp [0, 1, 4, 5, 6, 7, 8, 9, 10, 11, 12, 13, 14, 15, 16, 17, 18, 19, 24, 49, 81, 83, 98, 101] ?_
              refine AWp.region ?_
              refine L.S (S.ldN Tryd.underlying30 Y30) ?_
              refine L.Y Y.mv ?_
              refine L.Y Y.mv ?_
              refine L.Y Y.bin ?_
              pl_ h
              obtain ⟨⟨t365, t366⟩, hc48, h⟩ := Option.bind_eq_some_iff.1 h
              dsimp only at h
              pl_ h
              refine L.C (C.callE (l := true) [] Tryd.func24 (impl_ChoiceOf.ac _ _ _ _ _ _ hc48) .nil ?_)
              refine L.Y Y.mv ?_
              refine L.Y Y.ex ?_
              refine L.Y Y.ex ?_
              refine L.Y Y.asg ?_
              refine L.Y Y.asg ?_
              refine AList.nil ?_
              refine AWp.seq ?_
              refine W.kp [0, 1, 4, 5, 6, 7, 8, 9, 10, 11, 12, 13, 14, 15, 16, 17, 18, 19, 20, 21, 24, 49, 81, 83, 98, 101] ?_
              refine AWp.region ?_
              refine L.Y Y.mv ?_
              refine L.Y Y.mv ?_
              refine L.Gc (fun hb => ?_) (fun hb => ?_)
              ·
               have hb49 := hb
               sb_ hb
               rw_ hb49 hb h
               pl_ h
               refine L.Gy hb49 Y.mv ?_
               refine L.Y (Y.pk (c := true) hb49) ?_
               refine L.Y Y.mv ?_
               refine L.Gc (fun hb => ?_) (fun hb => ?_)
               ·
                have hb50 := hb
                sb_ hb
                rw_ hb50 hb h
                pl_ h
                refine L.Gy hb50 Y.mv ?_
                refine L.Y (Y.pk (c := true) hb50) ?_
                refine L.Y Y.mv ?_
                refine L.Gc (fun hb => ?_) (fun hb => ?_)
                ·
                 have hb51 := hb
                 sb_ hb
                 rw_ hb51 hb h
                 pl_ h
                 refine L.Gy hb51 Y.mv ?_
                 refine L.Gy hb51 Y.mv ?_
                 refine L.Gy hb51 Y.bin ?_
                 refine L.Y (Y.pk (c := true) hb51) ?_
                 refine L.Y Y.asg ?_
                 refine AList.nil ?_
                 pl_ h
                 refine AWp.ret ?_
                 first | (exfalso; cases h; done) | exact ⟨.inr rfl, [(4, _)], _, ⟨rfl, rfl⟩, IsPart.at [] [] base0 .nil (E.c .nil (hs := Sub.litE (by lv_ h)))⟩
                ·
                 have hb51 := hb
                 sb_ hb
                 rw_ hb51 hb h
                 pl_ h
                 refine L.Gn hb51 ?_
                 refine L.Gn hb51 ?_
                 refine L.Gn hb51 ?_
                 refine L.Y (Y.pk (c := false) hb51) ?_
                 refine L.Y Y.asg ?_
                 refine AList.nil ?_
                 pl_ h
                 refine AWp.ret ?_
                 first | (exfalso; cases h; done) | exact ⟨.inr rfl, [(4, _)], _, ⟨rfl, rfl⟩, IsPart.at [] [] base0 .nil (E.c .nil (hs := Sub.litE (by lv_ h)))⟩
               ·
                have hb50 := hb
                sb_ hb
                rw_ hb50 hb h
                pl_ h
                refine L.Gn hb50 ?_
                refine L.Y (Y.pk (c := false) hb50) ?_
                refine L.Y Y.mv ?_
                refine L.Gc (fun hb => ?_) (fun hb => ?_)
                ·
                 dd_ hb
                have hb52 := hb
                refine L.Gn hb52 ?_
                refine L.Gn hb52 ?_
                refine L.Gn hb52 ?_
                refine L.Y (Y.pk (c := false) hb52) ?_
                refine L.Y Y.asg ?_
                refine AList.nil ?_
                pl_ h
                refine AWp.ret ?_
                first | (exfalso; cases h; done) | exact ⟨.inr rfl, [(4, _)], _, ⟨rfl, rfl⟩, IsPart.at [] [] base0 .nil (E.c .nil (hs := Sub.litE (by lv_ h)))⟩
              ·
               have hb49 := hb
               sb_ hb
               rw_ hb49 hb h
               pl_ h
               refine L.Gn hb49 ?_
               refine L.Y (Y.pk (c := false) hb49) ?_
               refine L.Y Y.mv ?_
               refine L.Gc (fun hb => ?_) (fun hb => ?_)
               ·
                dd_ hb
               have hb53 := hb
               refine L.Gn hb53 ?_
               refine L.Y (Y.pk (c := false) hb53) ?_
               refine L.Y Y.mv ?_
               refine L.Gc (fun hb => ?_) (fun hb => ?_)
               ·
                dd_ hb
               have hb54 := hb
               refine L.Gn hb54 ?_
               refine L.Gn hb54 ?_
               refine L.Gn hb54 ?_
               refine L.Y (Y.pk (c := false) hb54) ?_
               refine L.Y Y.asg ?_
               refine AList.nil ?_
               pl_ h
               refine AWp.ret ?_
               first | (exfalso; cases h; done) | exact ⟨.inr rfl, [(4, _)], _, ⟨rfl, rfl⟩, IsPart.at [] [] base0 .nil (E.c .nil (hs := Sub.litE (by lv_ h)))⟩
           ·
            have hb27 := hb
            sb_ hb
            rw_ hb27 hb h
            pl_ h
            refine L.Gn hb27 ?_
            refine L.Gn hb27 ?_
            refine L.Gy hb25 (Y.pk (c := false) hb27) ?_
            refine L.Gy hb25 Y.mv ?_
            refine L.Gc (fun hb => ?_) (fun hb => ?_)
            ·
             dd_ hb
            have hb55 := hb
            refine L.Gn hb55 ?_
            refine L.Gn hb55 ?_
            refine L.Gy hb25 (Y.pk (c := false) hb55) ?_
            refine L.Y (Y.pk (c := false) hb25) ?_
            refine AList.nil ?_
            rcases k with _ | k
            ·
             exact absurd h (by simp [laws_FnChoicesOfOrders.j2])
            simp only [laws_FnChoicesOfOrders.j2] at h
            pl_ h
            refine W.cond (fun hb => ?_) (fun hb => ?_)
            ·
             dd_ hb
            have hb56 := hb
            try (rw_ hb56 hb h)
            pl_ h
            refine AWp.skip ?_
            refine AWp.seq ?_
            refine AWp.seq ?_
            refine W.kp [0, 1, 4, 5, 6, 7, 8, 9, 10, 11, 12, 13, 14, 24, 49, 81, 83, 98] ?_
            refine AWp.region ?_
            refine L.S (S.ldN Tryd.underlying30 Y30) ?_
            pl_ h
            obtain ⟨t359, hc57, h⟩ := Option.bind_eq_some_iff.1 h
            pl_ h
            refine L.C (C.callE (l := true) [] Tryd.func29 (impl_IsOrder.ac _ _ _ _ hc57) .nil ?_)
            refine L.Y Y.nt ?_
            refine AList.nil ?_
            refine W.cond (fun hb => ?_) (fun hb => ?_)
            ·
             have hb58 := hb
             sb_ hb
             rw_ hb58 hb h
             pl_ h
             refine AWp.seq ?_
             refine AWp.region ?_
             refine L.Y Y.asg ?_
             refine AList.nil ?_
             pl_ h
             refine AWp.ret ?_
             first | (exfalso; cases h; done) | exact ⟨.inr rfl, [(4, _)], _, ⟨rfl, rfl⟩, IsPart.at [] [] base0 .nil (E.c .nil (hs := Sub.litE (by lv_ h)))⟩
            ·
             have hb58 := hb
             sb_ hb
             rw_ hb58 hb h
             pl_ h
             refine AWp.skip ?_
             refine AWp.seq ?_
             refine Dt.reg [] [] (.y 0 (.y 2 (.t 3 (.y 4 (.one 1 (.y 5 (.y 6 .done))))))) HM ?_
             refine Dt.Y rfl wantN Y.mv ?_
             refine Dt.Y rfl wantN (Y.fa (off := 0) Tryd.underlying30 Y3) ?_
             refine Dt.T rfl wantN (D.ld Tryd.underlying3) ?_
             pl_ h
             obtain ⟨t360, hc59, h⟩ := Option.bind_eq_some_iff.1 h
             pl_ h
             refine Dt.Y rfl wantN Y.bin ?_
             refine Dt.O (g' := false) rfl wantN ?_
             refine Ox.C true [] Tryd.func30 (laws_vNumber.ac _ _ _ hc59) .nil ?_
             refine Dt.Y rfl wantN Y.bin ?_
             refine Dt.Y rfl wantN Y.asg ?_
             refine Dt.nil ?_
             refine AWp.seq ?_
             refine W.kp [0, 1, 4, 5, 6, 7, 8, 9, 10, 11, 12, 13, 14, 15, 24, 49, 81, 83, 98, 101] ?_
             refine AWp.region ?_
             refine L.S (S.ldN Tryd.underlying30 Y30) ?_
             refine L.Y Y.mv ?_
             pl_ h
             obtain ⟨⟨t361, t362⟩, hc60, h⟩ := Option.bind_eq_some_iff.1 h
             dsimp only at h
             pl_ h
             refine L.C (C.callE (l := true) [] Tryd.func24 (impl_ChoiceOf.ac _ _ _ _ _ _ hc60) .nil ?_)
             refine L.Y Y.mv ?_
             refine L.Y Y.ex ?_
             refine L.Y Y.ex ?_
             refine L.Y Y.asg ?_
             refine L.Y Y.asg ?_
             refine AList.nil ?_
             refine AWp.seq ?_
             refine W.kp [0, 1, 4, 5, 6, 7, 8, 9, 10, 11, 12, 13, 14, 15, 16, 17, 24, 49, 81, 83, 98, 101] ?_
             refine AWp.region ?_
             refine L.S (S.ldN Tryd.underlying30 Y30) ?_
             refine L.Y Y.mv ?_
             refine L.Y Y.mv ?_
             refine L.Y Y.bin ?_
             pl_ h
             obtain ⟨⟨t363, t364⟩, hc61, h⟩ := Option.bind_eq_some_iff.1 h
             dsimp only at h
             pl_ h
             refine L.C (C.callE (l := true) [] Tryd.func24 (impl_ChoiceOf.ac _ _ _ _ _ _ hc61) .nil ?_)
             refine L.Y Y.mv ?_
             refine L.Y Y.ex ?_
             refine L.Y Y.ex ?_
             refine L.Y Y.asg ?_
             refine L.Y Y.asg ?_
             refine AList.nil ?_
             refine AWp.seq ?_
             refine W.kp [0, 1, 4, 5, 6, 7, 8, 9, 10, 11, 12, 13, 14, 15, 16, 17, 18, 19, 24, 49, 81, 83, 98, 101] ?_
             refine AWp.region ?_
             refine L.S (S.ldN Tryd.underlying30 Y30) ?_
             refine L.Y Y.mv ?_
             refine L.Y Y.mv ?_
             refine L.Y Y.bin ?_
             pl_ h
             obtain ⟨⟨t365, t366⟩, hc62, h⟩ := Option.bind_eq_some_iff.1 h
             dsimp only at h
             pl_ h
             refine L.C (C.callE (l := true) [] Tryd.func24 (impl_ChoiceOf.ac _ _ _ _ _ _ hc62) .nil ?_)
             refine L.Y Y.mv ?_
             refine L.Y Y.ex ?_
             refine L.Y Y.ex ?_
             refine L.Y Y.asg ?_
             refine L.Y Y.asg ?_
             refine AList.nil ?_
             refine AWp.seq ?_
             refine W.kp [0, 1, 4, 5, 6, 7, 8, 9, 10, 11, 12, 13, 14, 15, 16, 17, 18, 19, 20, 21, 24, 49, 81, 83, 98, 101] ?_
             refine AWp.region ?_
             refine L.Y Y.mv ?_
             refine L.Y Y.mv ?_
             refine L.Gc (fun hb => ?_) (fun hb => ?_)
             ·
              have hb63 := hb
              sb_ hb
              rw_ hb63 hb h
              pl_ h
              refine L.Gy hb63 Y.mv ?_
              refine L.Y (Y.pk (c := true) hb63) ?_
              refine L.Y Y.mv ?_
              refine L.Gc (fun hb => ?_) (fun hb => ?_)
              ·
               have hb64 := hb
               sb_ hb
               rw_ hb64 hb h
               pl_ h
               refine L.Gy hb64 Y.mv ?_
               refine L.Y (Y.pk (c := true) hb64) ?_
               refine L.Y Y.mv ?_
               refine L.Gc (fun hb => ?_) (fun hb => ?_)
               ·
                have hb65 := hb
                sb_ hb
                rw_ hb65 hb h
                pl_ h
                refine L.Gy hb65 Y.mv ?_
                refine L.Gy hb65 Y.mv ?_
                refine L.Gy hb65 Y.bin ?_
                refine L.Y (Y.pk (c := true) hb65) ?_
                refine L.Y Y.asg ?_
                refine AList.nil ?_
                pl_ h
                refine AWp.ret ?_
                first | (exfalso; cases h; done) | exact ⟨.inr rfl, [(4, _)], _, ⟨rfl, rfl⟩, IsPart.at [] [] base0 .nil (E.c .nil (hs := Sub.litE (by lv_ h)))⟩
               ·
                have hb65 := hb
                sb_ hb
                rw_ hb65 hb h
                pl_ h
                refine L.Gn hb65 ?_
                refine L.Gn hb65 ?_
                refine L.Gn hb65 ?_
                refine L.Y (Y.pk (c := false) hb65) ?_
                refine L.Y Y.asg ?_
                refine AList.nil ?_
                pl_ h
                refine AWp.ret ?_
                first | (exfalso; cases h; done) | exact ⟨.inr rfl, [(4, _)], _, ⟨rfl, rfl⟩, IsPart.at [] [] base0 .nil (E.c .nil (hs := Sub.litE (by lv_ h)))⟩
              ·
               have hb64 := hb
               sb_ hb
               rw_ hb64 hb h
               pl_ h
               refine L.Gn hb64 ?_
               refine L.Y (Y.pk (c := false) hb64) ?_
               refine L.Y Y.mv ?_
               refine L.Gc (fun hb => ?_) (fun hb => ?_)
               ·
                dd_ hb
               have hb66 := hb
               refine L.Gn hb66 ?_
               refine L.Gn hb66 ?_
               refine L.Gn hb66 ?_
               refine L.Y (Y.pk (c := false) hb66) ?_
               refine L.Y Y.asg ?_
               refine AList.nil ?_
               pl_ h
               refine AWp.ret ?_
               first | (exfalso; cases h; done) | exact ⟨.inr rfl, [(4, _)], _, ⟨rfl, rfl⟩, IsPart.at [] [] base0 .nil (E.c .nil (hs := Sub.litE (by lv_ h)))⟩
             ·
              have hb63 := hb
              sb_ hb
              rw_ hb63 hb h
              pl_ h
              refine L.Gn hb63 ?_
              refine L.Y (Y.pk (c := false) hb63) ?_
              refine L.Y Y.mv ?_
              refine L.Gc (fun hb => ?_) (fun hb => ?_)
              ·
               dd_ hb
              have hb67 := hb
              refine L.Gn hb67 ?_
              refine L.Y (Y.pk (c := false) hb67) ?_
              refine L.Y Y.mv ?_
              refine L.Gc (fun hb => ?_) (fun hb => ?_)
              ·
               dd_ hb
              have hb68 := hb
              refine L.Gn hb68 ?_
              refine L.Gn hb68 ?_
              refine L.Gn hb68 ?_
              refine L.Y (Y.pk (c := false) hb68) ?_
              refine L.Y Y.asg ?_
              refine AList.nil ?_
              pl_ h
              refine AWp.ret ?_
              first | (exfalso; cases h; done) | exact ⟨.inr rfl, [(4, _)], _, ⟨rfl, rfl⟩, IsPart.at [] [] base0 .nil (E.c .nil (hs := Sub.litE (by lv_ h)))⟩
       ·
        have hb22 := hb
        sb_ hb
        rw_ hb22 hb h
        pl_ h
        refine L.Gn hb22 ?_
        refine L.Gn hb22 ?_
        refine L.Gy hb19 (Y.pk (c := false) hb22) ?_
        refine L.Y (Y.pk (c := false) hb19) ?_
        refine AList.nil ?_
        rcases k with _ | k
        ·
         exact absurd h (by simp [laws_FnChoicesOfOrders.j1])
        simp only [laws_FnChoicesOfOrders.j1] at h
        pl_ h
        refine W.cond (fun hb => ?_) (fun hb => ?_)
        ·
         dd_ hb
        have hb69 := hb
        try (rw_ hb69 hb h)
        pl_ h
        refine AWp.skip ?_
        refine AWp.seq ?_
        refine AWp.seq ?_
        refine W.kp [0, 1, 4, 5, 6, 7, 8, 9, 10, 11, 12, 13, 14, 24, 49, 81] ?_
        refine AWp.region ?_
        refine L.Y Y.mv ?_
        refine L.Y Y.nt ?_
        refine AList.nil ?_
        refine W.cond (fun hb => ?_) (fun hb => ?_)
        ·
         have hb70 := hb
         sb_ hb
         rw_ hb70 hb h
         pl_ h
         refine AWp.seq ?_
         refine AWp.region ?_
         refine L.Y Y.asg ?_
         refine AList.nil ?_
         pl_ h
         refine AWp.ret ?_
         first | (exfalso; cases h; done) | exact ⟨.inr rfl, [(4, _)], _, ⟨rfl, rfl⟩, IsPart.at [] [] base0 .nil (E.c .nil (hs := Sub.litE (by lv_ h)))⟩
        ·
         have hb70 := hb
         sb_ hb
         rw_ hb70 hb h
         pl_ h
         refine AWp.skip ?_
         refine AWp.seq ?_
         refine AWp.seq ?_
         refine AWp.region ?_
         refine L.Y Y.mv ?_
         refine L.Y Y.mv ?_
         refine L.Y Y.bin ?_
         refine L.Y Y.bin ?_
         refine L.Y Y.mv ?_
         refine L.Gc (fun hb => ?_) (fun hb => ?_)
         ·
          have hb71 := hb
          sb_ hb
          rw_ hb71 hb h
          pl_ h
          refine L.Gn hb71 ?_
          refine L.Gn hb71 ?_
          refine L.Nu ?_
          refine L.Nu ?_
          refine L.Gn hb71 ?_
          refine L.Gn hb71 ?_
          refine L.Nu ?_
          refine L.Nu ?_
          refine L.Gn hb71 ?_
          refine L.Y (Y.pk (c := true) hb71) ?_
          refine AList.nil ?_
          rcases k with _ | k
          ·
           exact absurd h (by simp [laws_FnChoicesOfOrders.j2])
          simp only [laws_FnChoicesOfOrders.j2] at h
          pl_ h
          refine W.cond (fun hb => ?_) (fun hb => ?_)
          rotate_left
          ·
           dd_ hb
          have hb72 := hb
          try (rw_ hb72 hb h)
          pl_ h
          refine AWp.seq ?_
          refine W.kp [0, 1, 4, 5, 6, 7, 8, 9, 10, 11, 12, 13, 14, 24, 49, 81, 83, 98] ?_
          refine AWp.region ?_
          refine L.Y Y.asg ?_
          refine AList.nil ?_
          pl_ h
          refine AWp.ret ?_
          first | (exfalso; cases h; done) | exact ⟨.inr rfl, [(4, _)], _, ⟨rfl, rfl⟩, IsPart.at [] [] base0 .nil (E.c .nil (hs := Sub.litE (by lv_ h)))⟩
         ·
          have hb71 := hb
          sb_ hb
          rw_ hb71 hb h
          pl_ h
          refine L.Gy hb71 Y.mv ?_
          refine L.Gy hb71 Y.mv ?_
          refine L.Gc (fun hb => ?_) (fun hb => ?_)
          ·
           have hb73 := hb
           sb_ hb
           rw_ hb73 hb h
           pl_ h
           refine L.Gy hb73 Y.mv ?_
           refine L.Gy hb73 Y.bin ?_
           refine L.Gy hb71 (Y.pk (c := true) hb73) ?_
           refine L.Gy hb71 Y.mv ?_
           refine L.Gc (fun hb => ?_) (fun hb => ?_)
           ·
            have hb74 := hb
            sb_ hb
            rw_ hb74 hb h
            pl_ h
            refine L.Gy hb74 Y.mv ?_
            refine L.Gy hb74 Y.bin ?_
            refine L.Gy hb71 (Y.pk (c := true) hb74) ?_
            refine L.Y (Y.pk (c := false) hb71) ?_
            refine AList.nil ?_
            rcases k with _ | k
            ·
             exact absurd h (by simp [laws_FnChoicesOfOrders.j2])
            simp only [laws_FnChoicesOfOrders.j2] at h
            pl_ h
            refine W.cond (fun hb => ?_) (fun hb => ?_)
            ·
             have hb75 := hb
             sb_ hb
             rw_ hb75 hb h
             pl_ h
             refine AWp.seq ?_
             refine W.kp [0, 1, 4, 5, 6, 7, 8, 9, 10, 11, 12, 13, 14, 24, 49, 81, 83, 98] ?_
             refine AWp.region ?_
             refine L.Y Y.asg ?_
             refine AList.nil ?_
             pl_ h
             refine AWp.ret ?_
             first | (exfalso; cases h; done) | exact ⟨.inr rfl, [(4, _)], _, ⟨rfl, rfl⟩, IsPart.at [] [] base0 .nil (E.c .nil (hs := Sub.litE (by lv_ h)))⟩
            ·
             have hb75 := hb
             sb_ hb
             rw_ hb75 hb h
             pl_ h
             refine AWp.skip ?_
             refine AWp.seq ?_
             refine AWp.seq ?_
             refine W.kp [0, 1, 4, 5, 6, 7, 8, 9, 10, 11, 12, 13, 14, 24, 49, 81, 83, 98] ?_
             refine AWp.region ?_
             refine L.S (S.ldN Tryd.underlying30 Y30) ?_
             pl_ h
             obtain ⟨t359, hc76, h⟩ := Option.bind_eq_some_iff.1 h
             pl_ h
             refine L.C (C.callE (l := true) [] Tryd.func29 (impl_IsOrder.ac _ _ _ _ hc76) .nil ?_)
             refine L.Y Y.nt ?_
             refine AList.nil ?_
             refine W.cond (fun hb => ?_) (fun hb => ?_)
             ·
              have hb77 := hb
              sb_ hb
              rw_ hb77 hb h
              pl_ h
              refine AWp.seq ?_
              refine AWp.region ?_
              refine L.Y Y.asg ?_
              refine AList.nil ?_
              pl_ h
              refine AWp.ret ?_
              first | (exfalso; cases h; done) | exact ⟨.inr rfl, [(4, _)], _, ⟨rfl, rfl⟩, IsPart.at [] [] base0 .nil (E.c .nil (hs := Sub.litE (by lv_ h)))⟩
             ·
              have hb77 := hb
              sb_ hb
              rw_ hb77 hb h
              pl_ h
              refine AWp.skip ?_
              refine AWp.seq ?_
              refine Dt.reg [] [] (.y 0 (.y 2 (.t 3 (.y 4 (.one 1 (.y 5 (.y 6 .done))))))) HM ?_
              refine Dt.Y rfl wantN Y.mv ?_
              refine Dt.Y rfl wantN (Y.fa (off := 0) Tryd.underlying30 Y3) ?_
              refine Dt.T rfl wantN (D.ld Tryd.underlying3) ?_
              pl_ h
              obtain ⟨t360, hc78, h⟩ := Option.bind_eq_some_iff.1 h
              pl_ h
              refine Dt.Y rfl wantN Y.bin ?_
              refine Dt.O (g' := false) rfl wantN ?_
              refine Ox.C true [] Tryd.func30 (laws_vNumber.ac _ _ _ hc78) .nil ?_
              refine Dt.Y rfl wantN Y.bin ?_
              refine Dt.Y rfl wantN Y.asg ?_
              refine Dt.nil ?_
              refine AWp.seq ?_
              refine W.kp [0, 1, 4, 5, 6, 7, 8, 9, 10, 11, 12, 13, 14, 15, 24, 49, 81, 83, 98, 101] ?_
              refine AWp.region ?_
              refine L.S (S.ldN Tryd.underlying30 Y30) ?_
              refine L.Y Y.mv ?_
              pl_ h
              obtain ⟨⟨t361, t362⟩, hc79, h⟩ := Option.bind_eq_some_iff.1 h
              dsimp only at h
              pl_ h
              refine L.C (C.callE (l := true) [] Tryd.func24 (impl_ChoiceOf.ac _ _ _ _ _ _ hc79) .nil ?_)
              refine L.Y Y.mv ?_
              refine L.Y Y.ex ?_
              refine L.Y Y.ex ?_
              refine L.Y Y.asg ?_
              refine L.Y Y.asg ?_
              refine AList.nil ?_
              refine AWp.seq ?_
              refine W.kp [0, 1, 4, 5, 6, 7, 8, 9, 10, 11, 12, 13, 14, 15, 16, 17, 24, 49, 81, 83, 98, 101] ?_
              refine AWp.region ?_
              refine L.S (S.ldN Tryd.underlying30 Y30) ?_
              refine L.Y Y.mv ?_
              refine L.Y Y.mv ?_
              refine L.Y Y.bin ?_
              pl_ h
              obtain ⟨⟨t363, t364⟩, hc80, h⟩ := Option.bind_eq_some_iff.1 h
              dsimp only at h
              pl_ h
              refine L.C (C.callE (l := true) [] Tryd.func24 (impl_ChoiceOf.ac _ _ _ _ _ _ hc80) .nil ?_)
              refine L.Y Y.mv ?_
              refine L.Y Y.ex ?_
              refine L.Y Y.ex ?_
              refine L.Y Y.asg ?_
              refine L.Y Y.asg ?_
              refine AList.nil ?_
              refine AWp.seq ?_
              refine W.kp [0, 1, 4, 5, 6, 7, 8, 9, 10, 11, 12, 13, 14, 15, 16, 17, 18, 19, 24, 49, 81, 83, 98, 101] ?_
              refine AWp.region ?_
              refine L.S (S.ldN Tryd.underlying30 Y30) ?_
              refine L.Y Y.mv ?_
              refine L.Y Y.mv ?_
              refine L.Y Y.bin ?_
              pl_ h
              obtain ⟨⟨t365, t366⟩, hc81, h⟩ := Option.bind_eq_some_iff.1 h
              dsimp only at h
              pl_ h
              refine L.C (C.callE (l := true) [] Tryd.func24 (impl_ChoiceOf.ac _ _ _ _ _ _ hc81) .nil ?_)
              refine L.Y Y.mv ?_
              refine L.Y Y.ex ?_
              refine L.Y Y.ex ?_
              refine L.Y Y.asg ?_
              refine L.Y Y.asg ?_
              refine AList.nil ?_
              refine AWp.seq ?_
              refine W.kp [0, 1, 4, 5, 6, 7, 8, 9, 10, 11, 12, 13, 14, 15, 16, 17, 18, 19, 20, 21, 24, 49, 81, 83, 98, 101] ?_
              refine AWp.region ?_
              refine L.Y Y.mv ?_
              refine L.Y Y.mv ?_
              refine L.Gc (fun hb => ?_) (fun hb => ?_)
              ·
               have hb82 := hb
               sb_ hb
               rw_ hb82 hb h
               pl_ h
               refine L.Gy hb82 Y.mv ?_
               refine L.Y (Y.pk (c := true) hb82) ?_
               refine L.Y Y.mv ?_
               refine L.Gc (fun hb => ?_) (fun hb => ?_)
               ·
                have hb83 := hb
                sb_ hb
                rw_ hb83 hb h
                pl_ h
                refine L.Gy hb83 Y.mv ?_
                refine L.Y (Y.pk (c := true) hb83) ?_
                refine L.Y Y.mv ?_
                refine L.Gc (fun hb => ?_) (fun hb => ?_)
                ·
                 have hb84 := hb
                 sb_ hb
                 rw_ hb84 hb h
                 pl_ h
                 refine L.Gy hb84 Y.mv ?_
                 refine L.Gy hb84 Y.mv ?_
                 refine L.Gy hb84 Y.bin ?_
                 refine L.Y (Y.pk (c := true) hb84) ?_
                 refine L.Y Y.asg ?_
                 refine AList.nil ?_
                 pl_ h
                 refine AWp.ret ?_
                 first | (exfalso; cases h; done) | exact ⟨.inr rfl, [(4, _)], _, ⟨rfl, rfl⟩, IsPart.at [] [] base0 .nil (E.c .nil (hs := Sub.litE (by lv_ h)))⟩
                ·
                 have hb84 := hb
                 sb_ hb
                 rw_ hb84 hb h
                 pl_ h
                 refine L.Gn hb84 ?_
                 refine L.Gn hb84 ?_
                 refine L.Gn hb84 ?_
                 refine L.Y (Y.pk (c := false) hb84) ?_
                 refine L.Y Y.asg ?_
                 refine AList.nil ?_
                 pl_ h
                 refine AWp.ret ?_
                 first | (exfalso; cases h; done) | exact ⟨.inr rfl, [(4, _)], _, ⟨rfl, rfl⟩, IsPart.at [] [] base0 .nil (E.c .nil (hs := Sub.litE (by lv_ h)))⟩
               ·
                have hb83 := hb
                sb_ hb
                rw_ hb83 hb h
                pl_ h
                refine L.Gn hb83 ?_
                refine L.Y (Y.pk (c := false) hb83) ?_
                refine L.Y Y.mv ?_
                refine L.Gc (fun hb => ?_) (fun hb => ?_)
                ·
                 dd_ hb
                have hb85 := hb
                refine L.Gn hb85 ?_
                refine L.Gn hb85 ?_
                refine L.Gn hb85 ?_
                refine L.Y (Y.pk (c := false) hb85) ?_
                refine L.Y Y.asg ?_
                refine AList.nil ?_
                pl_ h
                refine AWp.ret ?_
                first | (exfalso; cases h; done) | exact ⟨.inr rfl, [(4, _)], _, ⟨rfl, rfl⟩, IsPart.at [] [] base0 .nil (E.c .nil (hs := Sub.litE (by lv_ h)))⟩
              ·
               have hb82 := hb
               sb_ hb
               rw_ hb82 hb h
               pl_ h
               refine L.Gn hb82 ?_
               refine L.Y (Y.pk (c := false) hb82) ?_
               refine L.Y Y.mv ?_
               refine L.Gc (fun hb => ?_) (fun hb => ?_)
               ·
                dd_ hb
               have hb86 := hb
               refine L.Gn hb86 ?_
               refine L.Y (Y.pk (c := false) hb86) ?_
               refine L.Y Y.mv ?_
               refine L.Gc (fun hb => ?_) (fun hb => ?_)
               ·
                dd_ hb
               have hb87 := hb
               refine L.Gn hb87 ?_
               refine L.Gn hb87 ?_
               refine L.Gn hb87 ?_
               refine L.Y (Y.pk (c := false) hb87) ?_
               refine L.Y Y.asg ?_
               refine AList.nil ?_
               pl_ h
               refine AWp.ret ?_
               first | (exfalso; cases h; done) | exact ⟨.inr rfl, [(4, _)], _, ⟨rfl, rfl⟩, IsPart.at [] [] base0 .nil (E.c .nil (hs := Sub.litE (by lv_ h)))⟩
           ·
            have hb74 := hb
            sb_ hb
            rw_ hb74 hb h
            pl_ h
            refine L.Gn hb74 ?_
            refine L.Gn hb74 ?_
            refine L.Gy hb71 (Y.pk (c := false) hb74) ?_
            refine L.Y (Y.pk (c := false) hb71) ?_
            refine AList.nil ?_
            rcases k with _ | k
            ·
             exact absurd h (by simp [laws_FnChoicesOfOrders.j2])
            simp only [laws_FnChoicesOfOrders.j2] at h
            pl_ h
            refine W.cond (fun hb => ?_) (fun hb => ?_)
            ·
             dd_ hb
            have hb88 := hb
            try (rw_ hb88 hb h)
            pl_ h
            refine AWp.skip ?_
            refine AWp.seq ?_
            refine AWp.seq ?_
            refine W.kp [0, 1, 4, 5, 6, 7, 8, 9, 10, 11, 12, 13, 14, 24, 49, 81, 83, 98] ?_
            refine AWp.region ?_
            refine L.S (S.ldN Tryd.underlying30 Y30) ?_
            pl_ h
            obtain ⟨t359, hc89, h⟩ := Option.bind_eq_some_iff.1 h
            pl_ h
            refine L.C (C.callE (l := true) [] Tryd.func29 (impl_IsOrder.ac _ _ _ _ hc89) .nil ?_)
            refine L.Y Y.nt ?_
            refine AList.nil ?_
            refine W.cond (fun hb => ?_) (fun hb => ?_)
            ·
             have hb90 := hb
             sb_ hb
             rw_ hb90 hb h
             pl_ h
             refine AWp.seq ?_
             refine AWp.region ?_
             refine L.Y Y.asg ?_
             refine AList.nil ?_
             pl_ h
             refine AWp.ret ?_
             first | (exfalso; cases h; done) | exact ⟨.inr rfl, [(4, _)], _, ⟨rfl, rfl⟩, IsPart.at [] [] base0 .nil (E.c .nil (hs := Sub.litE (by lv_ h)))⟩
            ·
             have hb90 := hb
             sb_ hb
             rw_ hb90 hb h
             pl_ h
             refine AWp.skip ?_
             refine AWp.seq ?_
             refine Dt.reg [] [] (.y 0 (.y 2 (.t 3 (.y 4 (.one 1 (.y 5 (.y 6 .done))))))) HM ?_
             refine Dt.Y rfl wantN Y.mv ?_
             refine Dt.Y rfl wantN (Y.fa (off := 0) Tryd.underlying30 Y3) ?_
             refine Dt.T rfl wantN (D.ld Tryd.underlying3) ?_
             pl_ h
             obtain ⟨t360, hc91, h⟩ := Option.bind_eq_some_iff.1 h
             pl_ h
             refine Dt.Y rfl wantN Y.bin ?_
             refine Dt.O (g' := false) rfl wantN ?_
             refine Ox.C true [] Tryd.func30 (laws_vNumber.ac _ _ _ hc91) .nil ?_
             refine Dt.Y rfl wantN Y.bin ?_
             refine Dt.Y rfl wantN Y.asg ?_
             refine Dt.nil ?_
             refine AWp.seq ?_
             refine W.kp [0, 1, 4, 5, 6, 7, 8, 9, 10, 11, 12, 13, 14, 15, 24, 49, 81, 83, 98, 101] ?_
             refine AWp.region ?_
             refine L.S (S.ldN Tryd.underlying30 Y30) ?_
             refine L.Y Y.mv ?_
             pl_ h
             obtain ⟨⟨t361, t362⟩, hc92, h⟩ := Option.bind_eq_some_iff.1 h
             dsimp only at h
             pl_ h
             refine L.C (C.callE (l := true) [] Tryd.func24 (impl_ChoiceOf.ac _ _ _ _ _ _ hc92) .nil ?_)
             refine L.Y Y.mv ?_
             refine L.Y Y.ex ?_
             refine L.Y Y.ex ?_
             refine L.Y Y.asg ?_
             refine L.Y Y.asg ?_
             refine AList.nil ?_
             refine AWp.seq ?_
             refine W.kp [0, 1, 4, 5, 6, 7, 8, 9, 10, 11, 12, 13, 14, 15, 16, 17, 24, 49, 81, 83, 98, 101] ?_
             refine AWp.region ?_
             refine L.S (S.ldN Tryd.underlying30 Y30) ?_
             refine L.Y Y.mv ?_
             refine L.Y Y.mv ?_
             refine L.Y Y.bin ?_
             pl_ h
             obtain ⟨⟨t363, t364⟩, hc93, h⟩ := Option.bind_eq_some_iff.1 h
             dsimp only at h
             pl_ h
             refine L.C (C.callE (l := true) [] Tryd.func24 (impl_ChoiceOf.ac _ _ _ _ _ _ hc93) .nil ?_)
             refine L.Y Y.mv ?_
             refine L.Y Y.ex ?_
             refine L.Y Y.ex ?_
             refine L.Y Y.asg ?_
             refine L.Y Y.asg ?_
             refine AList.nil ?_
             refine AWp.seq ?_
             refine W.kp [0, 1, 4, 5, 6, 7, 8, 9, 10, 11, 12, 13, 14, 15, 16, 17, 18, 19, 24, 49, 81, 83, 98, 101] ?_
             refine AWp.region ?_
             refine L.S (S.ldN Tryd.underlying30 Y30) ?_
             refine L.Y Y.mv ?_
             refine L.Y Y.mv ?_
             refine L.Y Y.bin ?_
             pl_ h
             obtain ⟨⟨t365, t366⟩, hc94, h⟩ := Option.bind_eq_some_iff.1 h
             dsimp only at h
             pl_ h
             refine L.C (C.callE (l := true) [] Tryd.func24 (impl_ChoiceOf.ac _ _ _ _ _ _ hc94) .nil ?_)
             refine L.Y Y.mv ?_
             refine L.Y Y.ex ?_
             refine L.Y Y.ex ?_
             refine L.Y Y.asg ?_
             refine L.Y Y.asg ?_
             refine AList.nil ?_
             refine AWp.seq ?_
             refine W.kp [0, 1, 4, 5, 6, 7, 8, 9, 10, 11, 12, 13, 14, 15, 16, 17, 18, 19, 20, 21, 24, 49, 81, 83, 98, 101] ?_
             refine AWp.region ?_
             refine L.Y Y.mv ?_
             refine L.Y Y.mv ?_
             refine L.Gc (fun hb => ?_) (fun hb => ?_)
             ·
              have hb95 := hb
              sb_ hb
              rw_ hb95 hb h
              pl_ h
              refine L.Gy hb95 Y.mv ?_
              refine L.Y (Y.pk (c := true) hb95) ?_
              refine L.Y Y.mv ?_
              refine L.Gc (fun hb => ?_) (fun hb => ?_)
              ·
               have hb96 := hb
               sb_ hb
               rw_ hb96 hb h
               pl_ h
               refine L.Gy hb96 Y.mv ?_
               refine L.Y (Y.pk (c := true) hb96) ?_
               refine L.Y Y.mv ?_
               refine L.Gc (fun hb => ?_) (fun hb => ?_)
               ·
                have hb97 := hb
                sb_ hb
                rw_ hb97 hb h
                pl_ h
                refine L.Gy hb97 Y.mv ?_
                refine L.Gy hb97 Y.mv ?_
                refine L.Gy hb97 Y.bin ?_
                refine L.Y (Y.pk (c := true) hb97) ?_
                refine L.Y Y.asg ?_
                refine AList.nil ?_
                pl_ h
                refine AWp.ret ?_
                first | (exfalso; cases h; done) | exact ⟨.inr rfl, [(4, _)], _, ⟨rfl, rfl⟩, IsPart.at [] [] base0 .nil (E.c .nil (hs := Sub.litE (by lv_ h)))⟩
               ·
                have hb97 := hb
                sb_ hb
                rw_ hb97 hb h
                pl_ h
                refine L.Gn hb97 ?_
                refine L.Gn hb97 ?_
                refine L.Gn hb97 ?_
                refine L.Y (Y.pk (c := false) hb97) ?_
                refine L.Y Y.asg ?_
                refine AList.nil ?_
                pl_ h
                refine AWp.ret ?_
                first | (exfalso; cases h; done) | exact ⟨.inr rfl, [(4, _)], _, ⟨rfl, rfl⟩, IsPart.at [] [] base0 .nil (E.c .nil (hs := Sub.litE (by lv_ h)))⟩
              ·
               have hb96 := hb
               sb_ hb
               rw_ hb96 hb h
               pl_ h
               refine L.Gn hb96 ?_
               refine L.Y (Y.pk (c := false) hb96) ?_
               refine L.Y Y.mv ?_
               refine L.Gc (fun hb => ?_) (fun hb => ?_)
               ·
                dd_ hb
               have hb98 := hb
               refine L.Gn hb98 ?_
               refine L.Gn hb98 ?_
               refine L.Gn hb98 ?_
               refine L.Y (Y.pk (c := false) hb98) ?_
               refine L.Y Y.asg ?_
               refine AList.nil ?_
               pl_ h
               refine AWp.ret ?_
               first | (exfalso; cases h; done) | exact ⟨.inr rfl, [(4, _)], _, ⟨rfl, rfl⟩, IsPart.at [] [] base0 .nil (E.c .nil (hs := Sub.litE (by lv_ h)))⟩
             ·
              have hb95 := hb
              sb_ hb
              rw_ hb95 hb h
              pl_ h
              refine L.Gn hb95 ?_
              refine L.Y (Y.pk (c := false) hb95) ?_
              refine L.Y Y.mv ?_
              refine L.Gc (fun hb => ?_) (fun hb => ?_)
              ·
               dd_ hb
              have hb99 := hb
              refine L.Gn hb99 ?_
              refine L.Y (Y.pk (c := false) hb99) ?_
              refine L.Y Y.mv ?_
              refine L.Gc (fun hb => ?_) (fun hb => ?_)
              ·
               dd_ hb
              have hb100 := hb
              refine L.Gn hb100 ?_
              refine L.Gn hb100 ?_
              refine L.Gn hb100 ?_
              refine L.Y (Y.pk (c := false) hb100) ?_
              refine L.Y Y.asg ?_
              refine AList.nil ?_
              pl_ h
              refine AWp.ret ?_
              first | (exfalso; cases h; done) | exact ⟨.inr rfl, [(4, _)], _, ⟨rfl, rfl⟩, IsPart.at [] [] base0 .nil (E.c .nil (hs := Sub.litE (by lv_ h)))⟩
          ·
           have hb73 := hb
           sb_ hb
           rw_ hb73 hb h
           pl_ h
           refine L.Gn hb73 ?_
           refine L.Gn hb73 ?_
           refine L.Gy hb71 (Y.pk (c := false) hb73) ?_
           refine L.Gy hb71 Y.mv ?_
           refine L.Gc (fun hb => ?_) (fun hb => ?_)
           ·
            dd_ hb
           have hb101 := hb
           refine L.Gn hb101 ?_
           refine L.Gn hb101 ?_
           refine L.Gy hb71 (Y.pk (c := false) hb101) ?_
           refine L.Y (Y.pk (c := false) hb71) ?_
           refine AList.nil ?_
           rcases k with _ | k
           ·
            exact absurd h (by simp [laws_FnChoicesOfOrders.j2])
           simp only [laws_FnChoicesOfOrders.j2] at h
           pl_ h
           refine W.cond (fun hb => ?_) (fun hb => ?_)
           ·
            dd_ hb
           have hb102 := hb
           try (rw_ hb102 hb h)
           pl_ h
           refine AWp.skip ?_
           refine AWp.seq ?_
           refine AWp.seq ?_
           refine W.kp [0, 1, 4, 5, 6, 7, 8, 9, 10, 11, 12, 13, 14, 24, 49, 81, 83, 98] ?_
           refine AWp.region ?_
           refine L.S (S.ldN Tryd.underlying30 Y30) ?_
           pl_ h
           obtain ⟨t359, hc103, h⟩ := Option.bind_eq_some_iff.1 h
           pl_ h
           refine L.C (C.callE (l := true) [] Tryd.func29 (impl_IsOrder.ac _ _ _ _ hc103) .nil ?_)
           refine L.Y Y.nt ?_
           refine AList.nil ?_
           refine W.cond (fun hb => ?_) (fun hb => ?_)
           ·
            have hb104 := hb
            sb_ hb
            rw_ hb104 hb h
            pl_ h
            refine AWp.seq ?_
            refine AWp.region ?_
            refine L.Y Y.asg ?_
            refine AList.nil ?_
            pl_ h
            refine AWp.ret ?_
            first | (exfalso; cases h; done) | exact ⟨.inr rfl, [(4, _)], _, ⟨rfl, rfl⟩, IsPart.at [] [] base0 .nil (E.c .nil (hs := Sub.litE (by lv_ h)))⟩
           ·
            have hb104 := hb
            sb_ hb
            rw_ hb104 hb h
            pl_ h
            refine AWp.skip ?_
            refine AWp.seq ?_
            refine Dt.reg [] [] (.y 0 (.y 2 (.t 3 (.y 4 (.one 1 (.y 5 (.y 6 .done))))))) HM ?_
            refine Dt.Y rfl wantN Y.mv ?_
            refine Dt.Y rfl wantN (Y.fa (off := 0) Tryd.underlying30 Y3) ?_
            refine Dt.T rfl wantN (D.ld Tryd.underlying3) ?_
            pl_ h
            obtain ⟨t360, hc105, h⟩ := Option.bind_eq_some_iff.1 h
            pl_ h
            refine Dt.Y rfl wantN Y.bin ?_
            refine Dt.O (g' := false) rfl wantN ?_
            refine Ox.C true [] Tryd.func30 (laws_vNumber.ac _ _ _ hc105) .nil ?_
            refine Dt.Y rfl wantN Y.bin ?_
            refine Dt.Y rfl wantN Y.asg ?_
            refine Dt.nil ?_
            refine AWp.seq ?_
            refine W.kp [0, 1, 4, 5, 6, 7, 8, 9, 10, 11, 12, 13, 14, 15, 24, 49, 81, 83, 98, 101] ?_
            refine AWp.region ?_
            refine L.S (S.ldN Tryd.underlying30 Y30) ?_
            refine L.Y Y.mv ?_
            pl_ h
            obtain ⟨⟨t361, t362⟩, hc106, h⟩ := Option.bind_eq_some_iff.1 h
            dsimp only at h
            pl_ h
            refine L.C (C.callE (l := true) [] Tryd.func24 (impl_ChoiceOf.ac _ _ _ _ _ _ hc106) .nil ?_)
            refine L.Y Y.mv ?_
            refine L.Y Y.ex ?_
            refine L.Y Y.ex ?_
            refine L.Y Y.asg ?_
            refine L.Y Y.asg ?_
            refine AList.nil ?_
            refine AWp.seq ?_
            refine W.kp [0, 1, 4, 5, 6, 7, 8, 9, 10, 11, 12, 13, 14, 15, 16, 17, 24, 49, 81, 83, 98, 101] ?_
            refine AWp.region ?_
            refine L.S (S.ldN Tryd.underlying30 Y30) ?_
            refine L.Y Y.mv ?_
            refine L.Y Y.mv ?_
            refine L.Y Y.bin ?_
            pl_ h
            obtain ⟨⟨t363, t364⟩, hc107, h⟩ := Option.bind_eq_some_iff.1 h
            dsimp only at h
            pl_ h
            refine L.C (C.callE (l := true) [] Tryd.func24 (impl_ChoiceOf.ac _ _ _ _ _ _ hc107) .nil ?_)
            refine L.Y Y.mv ?_
            refine L.Y Y.ex ?_
            refine L.Y Y.ex ?_
            refine L.Y Y.asg ?_
            refine L.Y Y.asg ?_
            refine AList.nil ?_
            refine AWp.seq ?_
            refine W.kp [0, 1, 4, 5, 6, 7, 8, 9, 10, 11, 12, 13, 14, 15, 16, 17, 18, 19, 24, 49, 81, 83, 98, 101] ?_
            refine AWp.region ?_
            refine L.S (S.ldN Tryd.underlying30 Y30) ?_
            refine L.Y Y.mv ?_
            refine L.Y Y.mv ?_
            refine L.Y Y.bin ?_
            pl_ h
            obtain ⟨⟨t365, t366⟩, hc108, h⟩ := Option.bind_eq_some_iff.1 h
            dsimp only at h
            pl_ h
            refine L.C (C.callE (l := true) [] Tryd.func24 (impl_ChoiceOf.ac _ _ _ _ _ _ hc108) .nil ?_)
            refine L.Y Y.mv ?_
            refine L.Y Y.ex ?_
            refine L.Y Y.ex ?_
            refine L.Y Y.asg ?_
            refine L.Y Y.asg ?_
            refine AList.nil ?_
            refine AWp.seq ?_
            refine W.kp [0, 1, 4, 5, 6, 7, 8, 9, 10, 11, 12, 13, 14, 15, 16, 17, 18, 19, 20, 21, 24, 49, 81, 83, 98, 101] ?_
            refine AWp.region ?_
            refine L.Y Y.mv ?_
            refine L.Y Y.mv ?_
            refine L.Gc (fun hb => ?_) (fun hb => ?_)
            ·
             have hb109 := hb
             sb_ hb
             rw_ hb109 hb h
             pl_ h
             refine L.Gy hb109 Y.mv ?_
             refine L.Y (Y.pk (c := true) hb109) ?_
             refine L.Y Y.mv ?_
             refine L.Gc (fun hb => ?_) (fun hb => ?_)
             ·
              have hb110 := hb
              sb_ hb
              rw_ hb110 hb h
              pl_ h
              refine L.Gy hb110 Y.mv ?_
              refine L.Y (Y.pk (c := true) hb110) ?_
              refine L.Y Y.mv ?_
              refine L.Gc (fun hb => ?_) (fun hb => ?_)
              ·
               have hb111 := hb
               sb_ hb
               rw_ hb111 hb h
               pl_ h
               refine L.Gy hb111 Y.mv ?_
               refine L.Gy hb111 Y.mv ?_
               refine L.Gy hb111 Y.bin ?_
               refine L.Y (Y.pk (c := true) hb111) ?_
               refine L.Y Y.asg ?_
               refine AList.nil ?_
               pl_ h
               refine AWp.ret ?_
               first | (exfalso; cases h; done) | exact ⟨.inr rfl, [(4, _)], _, ⟨rfl, rfl⟩, IsPart.at [] [] base0 .nil (E.c .nil (hs := Sub.litE (by lv_ h)))⟩
              ·
               have hb111 := hb
               sb_ hb
               rw_ hb111 hb h
               pl_ h
               refine L.Gn hb111 ?_
               refine L.Gn hb111 ?_
               refine L.Gn hb111 ?_
               refine L.Y (Y.pk (c := false) hb111) ?_
               refine L.Y Y.asg ?_
               refine AList.nil ?_
               pl_ h
               refine AWp.ret ?_
               first | (exfalso; cases h; done) | exact ⟨.inr rfl, [(4, _)], _, ⟨rfl, rfl⟩, IsPart.at [] [] base0 .nil (E.c .nil (hs := Sub.litE (by lv_ h)))⟩
             ·
              have hb110 := hb
              sb_ hb
              rw_ hb110 hb h
              pl_ h
              refine L.Gn hb110 ?_
              refine L.Y (Y.pk (c := false) hb110) ?_
              refine L.Y Y.mv ?_
              refine L.Gc (fun hb => ?_) (fun hb => ?_)
              ·
               dd_ hb
              have hb112 := hb
              refine L.Gn hb112 ?_
              refine L.Gn hb112 ?_
              refine L.Gn hb112 ?_
              refine L.Y (Y.pk (c := false) hb112) ?_
              refine L.Y Y.asg ?_
              refine AList.nil ?_
              pl_ h
              refine AWp.ret ?_
              first | (exfalso; cases h; done) | exact ⟨.inr rfl, [(4, _)], _, ⟨rfl, rfl⟩, IsPart.at [] [] base0 .nil (E.c .nil (hs := Sub.litE (by lv_ h)))⟩
            ·
             have hb109 := hb
             sb_ hb
             rw_ hb109 hb h
             pl_ h
             refine L.Gn hb109 ?_
             refine L.Y (Y.pk (c := false) hb109) ?_
             refine L.Y Y.mv ?_
             refine L.Gc (fun hb => ?_) (fun hb => ?_)
             ·
              dd_ hb
             have hb113 := hb
             refine L.Gn hb113 ?_
             refine L.Y (Y.pk (c := false) hb113) ?_
             refine L.Y Y.mv ?_
             refine L.Gc (fun hb => ?_) (fun hb => ?_)
             ·
              dd_ hb
             have hb114 := hb
             refine L.Gn hb114 ?_
             refine L.Gn hb114 ?_
             refine L.Gn hb114 ?_
             refine L.Y (Y.pk (c := false) hb114) ?_
             refine L.Y Y.asg ?_
             refine AList.nil ?_
             pl_ h
             refine AWp.ret ?_
             first | (exfalso; cases h; done) | exact ⟨.inr rfl, [(4, _)], _, ⟨rfl, rfl⟩, IsPart.at [] [] base0 .nil (E.c .nil (hs := Sub.litE (by lv_ h)))⟩

/-- THE ONE PURE STATEMENT of laws_FnChoicesOfOrders: yours. -/
def laws_FnChoicesOfOrders.Pure : Prop := ∀ (l0 : List Int) (l1 : List Int), l0.length ≤ maxLen → l0.length * 1 ≤ 140737488351232 → (∀ x ∈ l0, (Lit.int .u8 x).wf = true) → l1.length ≤ maxLen → l1.length * 1 ≤ 140737488351232 → (∀ x ∈ l1, (Lit.int .u8 x).wf = true) → ∃ k, laws_FnChoicesOfOrders.f k l0 l1 = some true
theorem laws_FnChoicesOfOrders.walk (P : laws_FnChoicesOfOrders.Pure) (a0 : Option Addr) (len0 cap0 : Nat) (z0 : List Int) (a1 : Option Addr) (len1 cap1 : Nat) (z1 : List Int) (w : World) (hT : TabIn w) (w0 : (a0 = none ∧ len0 = 0 ∧ cap0 = 0 ∧ z0 = []) ∨ ∃ x, a0 = some x ∧ len0 ≤ cap0 ∧ cap0 ≤ maxLen ∧ z0.length = cap0 ∧ (∀ i, i < z0.length → w.cell? (x.add i) = some (.int .u8 (z0.getD i 0))) ∧ ∀ n ∈ z0, (Lit.int .u8 n).wf = true) (y0 : len0 * 1 ≤ 140737488351232) (w1 : (a1 = none ∧ len1 = 0 ∧ cap1 = 0 ∧ z1 = []) ∨ ∃ x, a1 = some x ∧ len1 ≤ cap1 ∧ cap1 ≤ maxLen ∧ z1.length = cap1 ∧ (∀ i, i < z1.length → w.cell? (x.add i) = some (.int .u8 (z1.getD i 0))) ∧ ∀ n ∈ z1, (Lit.int .u8 n).wf = true) (y1 : len1 * 1 ≤ 140737488351232) :
  Calls Tryd.prog 4 #[.slice a0 len0 cap0, .slice a1 len1 cap1] w fun e w' => e = .returned (.bool true) ∧ Below w.heap.size w w' := by
 obtain ⟨hl0, hv0⟩ := VR.came (A0 := fun _ => .bool false) (H := []) w0
 obtain ⟨hm0, hw0⟩ := came_fits w0
 have y0' := y0
 rw [← hl0] at y0'
 obtain ⟨hl1, hv1⟩ := VR.came (A0 := fun _ => .bool false) (H := []) w1
 obtain ⟨hm1, hw1⟩ := came_fits w1
 have y1' := y1
 rw [← hl1] at y1'
 obtain ⟨k, h⟩ := P (z0.take len0) (z1.take len1) hm0 y0' hw0 hm1 y1' hw1
 refine ACalls.law (vs := [.slice a0 len0 cap0, .slice a1 len1 cap1]) (tabP_of hT) (laws_FnChoicesOfOrders.ac k (z0.take len0) (z1.take len1) h) ?_
 repeat' first | assumption | exact VRs_nil | exact VR_lit | refine VRs_cons ?_ ?_ | refine VR_agg ?_

end Go.Proofs.YtpippjgphndjmaaDoor.PFnChoicesOfOrders
