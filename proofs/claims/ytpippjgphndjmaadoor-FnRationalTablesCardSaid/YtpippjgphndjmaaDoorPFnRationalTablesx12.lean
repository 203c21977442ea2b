-- Written by a program of this session's (wip/myprint2): the functions by the kit's print, the walks by awgen.py. Lean checks it.
import Derived.Test.YtpippjgphndjmaaDoorPFnRationalTablesx0
import Derived.Test.YtpippjgphndjmaaDoorPFnRationalTablesx1
import Derived.Test.YtpippjgphndjmaaDoorPFnRationalTablesx7
import Derived.Test.YtpippjgphndjmaaDoorPFnRationalTablesx8
import Derived.Test.YtpippjgphndjmaaDoorPFnRationalTablesx9
import Derived.Test.YtpippjgphndjmaaDoorPFnRationalTablesx10
import Derived.Test.YtpippjgphndjmaaDoorPFnRationalTablesx11
namespace Go.Proofs.YtpippjgphndjmaaDoor.PFnRationalTables
open Go.RowKit Go.Proofs.YtpippjgphndjmaaDoorW.PrintWords Go.Proofs.YtpippjgphndjmaaDoorW.PrintLast Go.Proofs.YtpippjgphndjmaaDoorW.PrintMore Go.Proofs.YtpippjgphndjmaaDoorM Go.Proofs.YtpippjgphndjmaaDoorA Go.Proofs.YtpippjgphndjmaaDoorT
attribute [local go_sem] max2_int min2_int max_two min_two max_three min_three max_four min_four   -- for this text's walks alone
set_option linter.unusedVariables false
set_option linter.unusedSimpArgs false

/-! ### laws_FnRationalTables: function 8 -/
mutual
def laws_FnRationalTables.j0 : Nat → Int → List Int → Bool → Bool → Bool → Option (Bool)
 | 0, _, _, _, _, _ => none
 | k + 1, x5, x6, x7, x8, x68 => if x68 = true then (some false) else ((impl_ShrinkFails.f k x5 x6).bind fun bt472 => ((spec_ShrinkFails.f k x5 x6).bind fun bt475 => ((impl_GrowFails.f k x5 x6).bind fun bt478 => ((spec_GrowFails.f k x5 x6).bind fun bt481 => ((impl_OutcastFails.f k x5 x6).bind fun bt484 => ((spec_OutcastFails.f k x5 x6).bind fun bt487 => ((impl_PathFails.f k x5 x6).bind fun bt490 => ((spec_PathFails.f k x5 x6).bind fun bt493 => (if (bt472.2.2 != bt475.2.2) = true then (laws_FnRationalTables.j1 k x5 x6 x7 x8 bt472.2.2 bt478.2.2 bt484.2.2 bt490.2.2 true) else (if bt472.1 = bt475.1 then (if bt472.2.1 = bt475.2.1 then (if (bt478.2.2 != bt481.2.2) = true then (laws_FnRationalTables.j1 k x5 x6 x7 x8 bt472.2.2 bt478.2.2 bt484.2.2 bt490.2.2 true) else (if bt478.1 = bt481.1 then (if bt478.2.1 = bt481.2.1 then (if (bt484.2.2 != bt487.2.2) = true then (laws_FnRationalTables.j1 k x5 x6 x7 x8 bt472.2.2 bt478.2.2 bt484.2.2 bt490.2.2 true) else (if bt484.1 = bt487.1 then (if bt484.2.1 = bt487.2.1 then (if (bt490.2.2 != bt493.2.2) = true then (laws_FnRationalTables.j1 k x5 x6 x7 x8 bt472.2.2 bt478.2.2 bt484.2.2 bt490.2.2 true) else (if bt490.1 = bt493.1 then (laws_FnRationalTables.j1 k x5 x6 x7 x8 bt472.2.2 bt478.2.2 bt484.2.2 bt490.2.2 (bt490.2.1 != bt493.2.1)) else (laws_FnRationalTables.j1 k x5 x6 x7 x8 bt472.2.2 bt478.2.2 bt484.2.2 bt490.2.2 true))) else (laws_FnRationalTables.j1 k x5 x6 x7 x8 bt472.2.2 bt478.2.2 bt484.2.2 bt490.2.2 true)) else (laws_FnRationalTables.j1 k x5 x6 x7 x8 bt472.2.2 bt478.2.2 bt484.2.2 bt490.2.2 true))) else (laws_FnRationalTables.j1 k x5 x6 x7 x8 bt472.2.2 bt478.2.2 bt484.2.2 bt490.2.2 true)) else (laws_FnRationalTables.j1 k x5 x6 x7 x8 bt472.2.2 bt478.2.2 bt484.2.2 bt490.2.2 true))) else (laws_FnRationalTables.j1 k x5 x6 x7 x8 bt472.2.2 bt478.2.2 bt484.2.2 bt490.2.2 true)) else (laws_FnRationalTables.j1 k x5 x6 x7 x8 bt472.2.2 bt478.2.2 bt484.2.2 bt490.2.2 true)))))))))))
def laws_FnRationalTables.j1 : Nat → Int → List Int → Bool → Bool → Bool → Bool → Bool → Bool → Bool → Option (Bool)
 | 0, _, _, _, _, _, _, _, _, _ => none
 | k + 1, x5, x6, x7, x8, x13, x19, x25, x31, x182 => if x182 = true then (some false) else ((impl_IsChoiceTable.f k x5 x6).bind fun bt496 => ((spec_IsChoiceTable.f k x5 x6).bind fun bt498 => (if (bt496.2 != bt498.2) = true then (laws_FnRationalTables.j2 k x5 x6 x7 x8 x13 x19 x25 x31 true) else (if (bt496.1 != bt498.1) = true then (laws_FnRationalTables.j2 k x5 x6 x7 x8 x13 x19 x25 x31 true) else (laws_FnRationalTables.j2 k x5 x6 x7 x8 x13 x19 x25 x31 (x8 != bt496.1))))))
def laws_FnRationalTables.j2 : Nat → Int → List Int → Bool → Bool → Bool → Bool → Bool → Bool → Bool → Option (Bool)
 | 0, _, _, _, _, _, _, _, _, _ => none
 | k + 1, x5, x6, x7, x8, x13, x19, x25, x31, x207 => if x207 = true then (some false) else (if x8 = true then ((impl_RevealedOf.f k x5 x6).bind fun bt500 => (if bt500.2.2 = true then (if x13 = true then (if (x7 != false) = true then (some false) else (if (x31 != true) = true then (some false) else (if x7 = true then ((impl_IsOrder.f k bt500.1 bt500.2.1).bind fun t506 => (if x19 = true then (some (t506 == false)) else (some (t506 == (!x31))))) else (if x19 = true then (some (false == false)) else (some (false == (!x31))))))) else (if (x7 != (!x19)) = true then (some false) else (if (x31 != x25) = true then (some false) else (if x7 = true then ((impl_IsOrder.f k bt500.1 bt500.2.1).bind fun t507 => (if x19 = true then (some (t507 == false)) else (some (t507 == (!x31))))) else (if x19 = true then (some (false == false)) else (some (false == (!x31)))))))) else (some false))) else (some true))
end
def laws_FnRationalTables.f (k : Nat) (l0 : List Int) (l1 : List Int) : Option (Bool) := (laws_big.f l0 l1).bind fun t463 => (if t463 = true then (some true) else ((spec_DrawIsRational.f k l0).bind fun bt464 => ((impl_IsRational.f k bt464.1 bt464.2).bind fun bt468 => ((spec_IsRational.f k bt464.1 bt464.2).bind fun bt470 => (if (bt468.2 != bt470.2) = true then (laws_FnRationalTables.j0 k bt464.1 bt464.2 bt468.1 bt468.2 true) else (laws_FnRationalTables.j0 k bt464.1 bt464.2 bt468.1 bt468.2 (bt468.1 != bt470.1)))))))
set_option maxRecDepth 100000 in
set_option maxHeartbeats 20000000 in
theorem laws_FnRationalTables.ac (k : Nat) (l0 : List Int) (l1 : List Int)  (h : laws_FnRationalTables.f k l0 l1 = some true) :
  ACalls Tryd.prog 8 [.row 1 l0.length false (ints .u8 l0), .row 1 l1.length false (ints .u8 l1)] [] (fun v H' => v = .lit (.bool true) ∧ H' = []) := by
 refine ACalls.ofP [4] Tryd.func8 rfl (by exact Nat.le_of_ble_eq_true rfl) rfl (by decide) ?_
 simp only [Tryd.ntmps8, env0, laws_FnRationalTables.f] at h ⊢
 refine AWp.seq ?_
 refine AWp.region ?_
 refine L.Y Y.asg ?_
 refine AList.nil ?_
 refine AWp.seq ?_
 refine AWp.seq ?_
 refine AWp.region ?_
 refine L.Y Y.mv ?_
 refine L.Y Y.mv ?_
 replace h := Option.bind_eq_some_iff.1 h
 obtain ⟨t463, hc1, h⟩ := h
 refine L.C (C.callE (l := true) [] Tryd.func22 (laws_big.ac _ _ _ hc1) .nil ?_)
 refine AList.nil ?_
 refine W.cond (fun hb => ?_) (fun hb => ?_)
 ·
  have hb2 := hb
  try simp only [hS, hE, ne_eq] at hb
  first | rw [if_pos hb2] at h | rw [if_neg (Bool.eq_false_iff.1 hb2)] at h | rw [if_pos hb] at h | rw [if_neg hb] at h | (simp only [hb, hT, reduceIte] at h) | skip
  refine AWp.seq ?_
  refine AWp.region ?_
  refine L.Y Y.asg ?_
  refine AList.nil ?_
  refine AWp.ret ?_
  first | (exfalso; cases h; done) | exact ⟨.inr rfl, [(4, _)], _, ⟨rfl, rfl⟩, IsPart.at [] [] base0 .nil (E.c .nil (hs := Sub.litE (LV h)))⟩
 ·
  have hb2 := hb
  try simp only [hS, hE, ne_eq] at hb
  first | rw [if_pos hb2] at h | rw [if_neg (Bool.eq_false_iff.1 hb2)] at h | rw [if_pos hb] at h | rw [if_neg hb] at h | (simp only [hb, hT, reduceIte] at h) | skip
  refine AWp.skip ?_
  refine AWp.seq ?_
  refine AWp.region ?_
  refine L.Y Y.mv ?_
  replace h := Option.bind_eq_some_iff.1 h
  obtain ⟨⟨t464, t465⟩, hc3, h⟩ := h
  dsimp only at h
  refine L.C (C.callE (l := true) [] Tryd.func47 (spec_DrawIsRational.ac _ _ _ _ hc3) .nil ?_)
  refine L.Y Y.mv ?_
  refine L.Y Y.ex ?_
  refine L.Y Y.ex ?_
  refine L.Y Y.asg ?_
  refine L.Y Y.asg ?_
  refine AList.nil ?_
  refine AWp.seq ?_
  refine W.kp [0, 1, 4, 5, 6, 43] ?_
  refine AWp.region ?_
  refine L.Y Y.mv ?_
  refine L.Y Y.mv ?_
  replace h := Option.bind_eq_some_iff.1 h
  obtain ⟨⟨t468, t469⟩, hc4, h⟩ := h
  dsimp only at h
  refine L.C (C.callE (l := true) [] Tryd.func48 (impl_IsRational.ac _ _ _ _ _ hc4) .nil ?_)
  refine L.Y Y.mv ?_
  refine L.Y Y.ex ?_
  refine L.Y Y.ex ?_
  refine L.Y Y.asg ?_
  refine L.Y Y.asg ?_
  refine AList.nil ?_
  refine AWp.seq ?_
  refine W.kp [0, 1, 4, 5, 6, 7, 8, 43] ?_
  refine AWp.region ?_
  refine L.Y Y.mv ?_
  refine L.Y Y.mv ?_
  replace h := Option.bind_eq_some_iff.1 h
  obtain ⟨⟨t470, t471⟩, hc5, h⟩ := h
  dsimp only at h
  refine L.C (C.callE (l := true) [] Tryd.func49 (spec_IsRational.ac _ _ _ _ _ hc5) .nil ?_)
  refine L.Y Y.mv ?_
  refine L.Y Y.ex ?_
  refine L.Y Y.ex ?_
  refine L.Y Y.asg ?_
  refine L.Y Y.asg ?_
  refine AList.nil ?_
  refine AWp.seq ?_
  refine AWp.seq ?_
  refine W.kp [0, 1, 4, 5, 6, 7, 8, 9, 10, 43] ?_
  refine AWp.region ?_
  refine L.Y Y.mv ?_
  refine L.Y Y.mv ?_
  refine L.Y (Y.bb Tryd.underlying4) ?_
  refine L.Y Y.mv ?_
  refine L.Gc (fun hb => ?_) (fun hb => ?_)
  ·
   have hb6 := hb
   try simp only [hS, hE, ne_eq] at hb
   first | rw [if_pos hb6] at h | rw [if_neg (Bool.eq_false_iff.1 hb6)] at h | rw [if_pos hb] at h | rw [if_neg hb] at h | (simp only [hb, hT, reduceIte] at h) | skip
   exfalso
   revert h
   exact fun h => by cases k <;> simp [laws_FnRationalTables.j0] at h
  ·
   have hb6 := hb
   try simp only [hS, hE, ne_eq] at hb
   first | rw [if_pos hb6] at h | rw [if_neg (Bool.eq_false_iff.1 hb6)] at h | rw [if_pos hb] at h | rw [if_neg hb] at h | (simp only [hb, hT, reduceIte] at h) | skip
   refine L.Gy hb6 Y.mv ?_
   refine L.Gy hb6 Y.mv ?_
   refine L.Gy hb6 (Y.bb Tryd.underlying4) ?_
   refine L.Y (Y.pk (c := false) hb6) ?_
   refine AList.nil ?_
   rcases k with _ | k
   ·
    exact absurd h (by simp [laws_FnRationalTables.j0])
   simp only [laws_FnRationalTables.j0] at h
   refine W.cond (fun hb => ?_) (fun hb => ?_)
   ·
    have hb7 := hb
    try simp only [hS, hE, ne_eq] at hb
    first | rw [if_pos hb7] at h | rw [if_neg (Bool.eq_false_iff.1 hb7)] at h | rw [if_pos hb] at h | rw [if_neg hb] at h | (simp only [hb, hT, reduceIte] at h) | skip
    exfalso
    revert h
    exact fun h => by simp at h
   ·
    have hb7 := hb
    try simp only [hS, hE, ne_eq] at hb
    first | rw [if_pos hb7] at h | rw [if_neg (Bool.eq_false_iff.1 hb7)] at h | rw [if_pos hb] at h | rw [if_neg hb] at h | (simp only [hb, hT, reduceIte] at h) | skip
    refine AWp.skip ?_
    refine AWp.seq ?_
    refine W.kp [0, 1, 4, 5, 6, 7, 8, 9, 10, 43, 68] ?_
    refine AWp.region ?_
    refine L.Y Y.mv ?_
    refine L.Y Y.mv ?_
    replace h := Option.bind_eq_some_iff.1 h
    obtain ⟨⟨t472, t473, t474⟩, hc8, h⟩ := h
    dsimp only at h
    refine L.C (C.callE (l := true) [] Tryd.func50 (impl_ShrinkFails.ac _ _ _ _ _ _ hc8) .nil ?_)
    refine L.Y Y.mv ?_
    refine L.Y Y.ex ?_
    refine L.Y Y.ex ?_
    refine L.Y Y.ex ?_
    refine L.Y Y.asg ?_
    refine L.Y Y.asg ?_
    refine L.Y Y.asg ?_
    refine AList.nil ?_
    refine AWp.seq ?_
    refine W.kp [0, 1, 4, 5, 6, 7, 8, 9, 10, 11, 12, 13, 43, 68] ?_
    refine AWp.region ?_
    refine L.Y Y.mv ?_
    refine L.Y Y.mv ?_
    replace h := Option.bind_eq_some_iff.1 h
    obtain ⟨⟨t475, t476, t477⟩, hc9, h⟩ := h
    dsimp only at h
    refine L.C (C.callE (l := true) [] Tryd.func51 (spec_ShrinkFails.ac _ _ _ _ _ _ hc9) .nil ?_)
    refine L.Y Y.mv ?_
    refine L.Y Y.ex ?_
    refine L.Y Y.ex ?_
    refine L.Y Y.ex ?_
    refine L.Y Y.asg ?_
    refine L.Y Y.asg ?_
    refine L.Y Y.asg ?_
    refine AList.nil ?_
    refine AWp.seq ?_
    refine W.kp [0, 1, 4, 5, 6, 7, 8, 9, 10, 11, 12, 13, 14, 15, 16, 43, 68] ?_
    refine AWp.region ?_
    refine L.Y Y.mv ?_
    refine L.Y Y.mv ?_
    replace h := Option.bind_eq_some_iff.1 h
    obtain ⟨⟨t478, t479, t480⟩, hc10, h⟩ := h
    dsimp only at h
    refine L.C (C.callE (l := true) [] Tryd.func52 (impl_GrowFails.ac _ _ _ _ _ _ hc10) .nil ?_)
    refine L.Y Y.mv ?_
    refine L.Y Y.ex ?_
    refine L.Y Y.ex ?_
    refine L.Y Y.ex ?_
    refine L.Y Y.asg ?_
    refine L.Y Y.asg ?_
    refine L.Y Y.asg ?_
    refine AList.nil ?_
    refine AWp.seq ?_
    refine W.kp [0, 1, 4, 5, 6, 7, 8, 9, 10, 11, 12, 13, 14, 15, 16, 17, 18, 19, 43, 68] ?_
    refine AWp.region ?_
    refine L.Y Y.mv ?_
    refine L.Y Y.mv ?_
    replace h := Option.bind_eq_some_iff.1 h
    obtain ⟨⟨t481, t482, t483⟩, hc11, h⟩ := h
    dsimp only at h
    refine L.C (C.callE (l := true) [] Tryd.func53 (spec_GrowFails.ac _ _ _ _ _ _ hc11) .nil ?_)
    refine L.Y Y.mv ?_
    refine L.Y Y.ex ?_
    refine L.Y Y.ex ?_
    refine L.Y Y.ex ?_
    refine L.Y Y.asg ?_
    refine L.Y Y.asg ?_
    refine L.Y Y.asg ?_
    refine AList.nil ?_
    refine AWp.seq ?_
    refine W.kp [0, 1, 4, 5, 6, 7, 8, 9, 10, 11, 12, 13, 14, 15, 16, 17, 18, 19, 20, 21, 22, 43, 68] ?_
    refine AWp.region ?_
    refine L.Y Y.mv ?_
    refine L.Y Y.mv ?_
    replace h := Option.bind_eq_some_iff.1 h
    obtain ⟨⟨t484, t485, t486⟩, hc12, h⟩ := h
    dsimp only at h
    refine L.C (C.callE (l := true) [] Tryd.func54 (impl_OutcastFails.ac _ _ _ _ _ _ hc12) .nil ?_)
    refine L.Y Y.mv ?_
    refine L.Y Y.ex ?_
    refine L.Y Y.ex ?_
    refine L.Y Y.ex ?_
    refine L.Y Y.asg ?_
    refine L.Y Y.asg ?_
    refine L.Y Y.asg ?_
    refine AList.nil ?_
    refine AWp.seq ?_
    refine W.kp [0, 1, 4, 5, 6, 7, 8, 9, 10, 11, 12, 13, 14, 15, 16, 17, 18, 19, 20, 21, 22, 23, 24, 25, 43, 68] ?_
    refine AWp.region ?_
    refine L.Y Y.mv ?_
    refine L.Y Y.mv ?_
    replace h := Option.bind_eq_some_iff.1 h
    obtain ⟨⟨t487, t488, t489⟩, hc13, h⟩ := h
    dsimp only at h
    refine L.C (C.callE (l := true) [] Tryd.func55 (spec_OutcastFails.ac _ _ _ _ _ _ hc13) .nil ?_)
    refine L.Y Y.mv ?_
    refine L.Y Y.ex ?_
    refine L.Y Y.ex ?_
    refine L.Y Y.ex ?_
    refine L.Y Y.asg ?_
    refine L.Y Y.asg ?_
    refine L.Y Y.asg ?_
    refine AList.nil ?_
    refine AWp.seq ?_
    refine W.kp [0, 1, 4, 5, 6, 7, 8, 9, 10, 11, 12, 13, 14, 15, 16, 17, 18, 19, 20, 21, 22, 23, 24, 25, 26, 27, 28, 43, 68] ?_
    refine AWp.region ?_
    refine L.Y Y.mv ?_
    refine L.Y Y.mv ?_
    replace h := Option.bind_eq_some_iff.1 h
    obtain ⟨⟨t490, t491, t492⟩, hc14, h⟩ := h
    dsimp only at h
    refine L.C (C.callE (l := true) [] Tryd.func56 (impl_PathFails.ac _ _ _ _ _ _ hc14) .nil ?_)
    refine L.Y Y.mv ?_
    refine L.Y Y.ex ?_
    refine L.Y Y.ex ?_
    refine L.Y Y.ex ?_
    refine L.Y Y.asg ?_
    refine L.Y Y.asg ?_
    refine L.Y Y.asg ?_
    refine AList.nil ?_
    refine AWp.seq ?_
    refine W.kp [0, 1, 4, 5, 6, 7, 8, 9, 10, 11, 12, 13, 14, 15, 16, 17, 18, 19, 20, 21, 22, 23, 24, 25, 26, 27, 28, 29, 30, 31, 43, 68] ?_
    refine AWp.region ?_
    refine L.Y Y.mv ?_
    refine L.Y Y.mv ?_
    replace h := Option.bind_eq_some_iff.1 h
    obtain ⟨⟨t493, t494, t495⟩, hc15, h⟩ := h
    dsimp only at h
    refine L.C (C.callE (l := true) [] Tryd.func57 (spec_PathFails.ac _ _ _ _ _ _ hc15) .nil ?_)
    refine L.Y Y.mv ?_
    refine L.Y Y.ex ?_
    refine L.Y Y.ex ?_
    refine L.Y Y.ex ?_
    refine L.Y Y.asg ?_
    refine L.Y Y.asg ?_
    refine L.Y Y.asg ?_
    refine AList.nil ?_
    refine AWp.seq ?_
    refine AWp.seq ?_
    refine W.kp [0, 1, 4, 5, 6, 7, 8, 9, 10, 11, 12, 13, 14, 15, 16, 17, 18, 19, 20, 21, 22, 23, 24, 25, 26, 27, 28, 29, 30, 31, 32, 33, 34, 43, 68] ?_
    refine AWp.region ?_
    refine L.Y Y.mv ?_
    refine L.Y Y.mv ?_
    refine L.Y (Y.bb Tryd.underlying4) ?_
    refine L.Y Y.mv ?_
    refine L.Gc (fun hb => ?_) (fun hb => ?_)
    ·
     have hb16 := hb
     try simp only [hS, hE, ne_eq] at hb
     first | rw [if_pos hb16] at h | rw [if_neg (Bool.eq_false_iff.1 hb16)] at h | rw [if_pos hb] at h | rw [if_neg hb] at h | (simp only [hb, hT, reduceIte] at h) | skip
     exfalso
     revert h
     exact fun h => by cases k <;> simp [laws_FnRationalTables.j1] at h
    ·
     have hb16 := hb
     try simp only [hS, hE, ne_eq] at hb
     first | rw [if_pos hb16] at h | rw [if_neg (Bool.eq_false_iff.1 hb16)] at h | rw [if_pos hb] at h | rw [if_neg hb] at h | (simp only [hb, hT, reduceIte] at h) | skip
     refine L.Gy hb16 Y.mv ?_
     refine L.Gy hb16 Y.mv ?_
     refine L.Gy hb16 Y.bin ?_
     refine L.Y (Y.pk (c := false) hb16) ?_
     refine L.Y Y.mv ?_
     refine L.Gc (fun hb => ?_) (fun hb => ?_)
     ·
      have hb17 := hb
      try simp only [hS, hE, ne_eq] at hb
      first | rw [if_pos hb17] at h | rw [if_neg (Bool.eq_false_iff.1 hb17)] at h | rw [if_pos hb] at h | rw [if_neg hb] at h | (simp only [hb, hT, reduceIte] at h) | skip
      exfalso
      revert h
      exact fun h => by cases k <;> simp [laws_FnRationalTables.j1] at h
     ·
      have hb17 := hb
      try simp only [hS, hE, ne_eq] at hb
      first | rw [if_pos hb17] at h | rw [if_neg (Bool.eq_false_iff.1 hb17)] at h | rw [if_pos hb] at h | rw [if_neg hb] at h | (simp only [hb, hT, reduceIte] at h) | skip
      refine L.Gy hb17 Y.mv ?_
      refine L.Gy hb17 Y.mv ?_
      refine L.Gy hb17 Y.bin ?_
      refine L.Y (Y.pk (c := false) hb17) ?_
      refine L.Y Y.mv ?_
      refine L.Gc (fun hb => ?_) (fun hb => ?_)
      ·
       have hb18 := hb
       try simp only [hS, hE, ne_eq] at hb
       first | rw [if_pos hb18] at h | rw [if_neg (Bool.eq_false_iff.1 hb18)] at h | rw [if_pos hb] at h | rw [if_neg hb] at h | (simp only [hb, hT, reduceIte] at h) | skip
       exfalso
       revert h
       exact fun h => by cases k <;> simp [laws_FnRationalTables.j1] at h
      ·
       have hb18 := hb
       try simp only [hS, hE, ne_eq] at hb
       first | rw [if_pos hb18] at h | rw [if_neg (Bool.eq_false_iff.1 hb18)] at h | rw [if_pos hb] at h | rw [if_neg hb] at h | (simp only [hb, hT, reduceIte] at h) | skip
       refine L.Gy hb18 Y.mv ?_
       refine L.Gy hb18 Y.mv ?_
       refine L.Gy hb18 (Y.bb Tryd.underlying4) ?_
       refine L.Y (Y.pk (c := false) hb18) ?_
       refine L.Y Y.mv ?_
       refine L.Gc (fun hb => ?_) (fun hb => ?_)
       ·
        have hb19 := hb
        try simp only [hS, hE, ne_eq] at hb
        first | rw [if_pos hb19] at h | rw [if_neg (Bool.eq_false_iff.1 hb19)] at h | rw [if_pos hb] at h | rw [if_neg hb] at h | (simp only [hb, hT, reduceIte] at h) | skip
        exfalso
        revert h
        exact fun h => by cases k <;> simp [laws_FnRationalTables.j1] at h
       ·
        have hb19 := hb
        try simp only [hS, hE, ne_eq] at hb
        first | rw [if_pos hb19] at h | rw [if_neg (Bool.eq_false_iff.1 hb19)] at h | rw [if_pos hb] at h | rw [if_neg hb] at h | (simp only [hb, hT, reduceIte] at h) | skip
        refine L.Gy hb19 Y.mv ?_
        refine L.Gy hb19 Y.mv ?_
        refine L.Gy hb19 Y.bin ?_
        refine L.Y (Y.pk (c := false) hb19) ?_
        refine L.Y Y.mv ?_
        refine L.Gc (fun hb => ?_) (fun hb => ?_)
        ·
         have hb20 := hb
         try simp only [hS, hE, ne_eq] at hb
         first | rw [if_pos hb20] at h | rw [if_neg (Bool.eq_false_iff.1 hb20)] at h | rw [if_pos hb] at h | rw [if_neg hb] at h | (simp only [hb, hT, reduceIte] at h) | skip
         exfalso
         revert h
         exact fun h => by cases k <;> simp [laws_FnRationalTables.j1] at h
        ·
         have hb20 := hb
         try simp only [hS, hE, ne_eq] at hb
         first | rw [if_pos hb20] at h | rw [if_neg (Bool.eq_false_iff.1 hb20)] at h | rw [if_pos hb] at h | rw [if_neg hb] at h | (simp only [hb, hT, reduceIte] at h) | skip
         refine L.Gy hb20 Y.mv ?_
         refine L.Gy hb20 Y.mv ?_
         refine L.Gy hb20 Y.bin ?_
         refine L.Y (Y.pk (c := false) hb20) ?_
         refine L.Y Y.mv ?_
         refine L.Gc (fun hb => ?_) (fun hb => ?_)
         ·
          have hb21 := hb
          try simp only [hS, hE, ne_eq] at hb
          first | rw [if_pos hb21] at h | rw [if_neg (Bool.eq_false_iff.1 hb21)] at h | rw [if_pos hb] at h | rw [if_neg hb] at h | (simp only [hb, hT, reduceIte] at h) | skip
          exfalso
          revert h
          exact fun h => by cases k <;> simp [laws_FnRationalTables.j1] at h
         ·
          have hb21 := hb
          try simp only [hS, hE, ne_eq] at hb
          first | rw [if_pos hb21] at h | rw [if_neg (Bool.eq_false_iff.1 hb21)] at h | rw [if_pos hb] at h | rw [if_neg hb] at h | (simp only [hb, hT, reduceIte] at h) | skip
          refine L.Gy hb21 Y.mv ?_
          refine L.Gy hb21 Y.mv ?_
          refine L.Gy hb21 (Y.bb Tryd.underlying4) ?_
          refine L.Y (Y.pk (c := false) hb21) ?_
          refine L.Y Y.mv ?_
          refine L.Gc (fun hb => ?_) (fun hb => ?_)
          ·
           have hb22 := hb
           try simp only [hS, hE, ne_eq] at hb
           first | rw [if_pos hb22] at h | rw [if_neg (Bool.eq_false_iff.1 hb22)] at h | rw [if_pos hb] at h | rw [if_neg hb] at h | (simp only [hb, hT, reduceIte] at h) | skip
           exfalso
           revert h
           exact fun h => by cases k <;> simp [laws_FnRationalTables.j1] at h
          ·
           have hb22 := hb
           try simp only [hS, hE, ne_eq] at hb
           first | rw [if_pos hb22] at h | rw [if_neg (Bool.eq_false_iff.1 hb22)] at h | rw [if_pos hb] at h | rw [if_neg hb] at h | (simp only [hb, hT, reduceIte] at h) | skip
           refine L.Gy hb22 Y.mv ?_
           refine L.Gy hb22 Y.mv ?_
           refine L.Gy hb22 Y.bin ?_
           refine L.Y (Y.pk (c := false) hb22) ?_
           refine L.Y Y.mv ?_
           refine L.Gc (fun hb => ?_) (fun hb => ?_)
           ·
            have hb23 := hb
            try simp only [hS, hE, ne_eq] at hb
            first | rw [if_pos hb23] at h | rw [if_neg (Bool.eq_false_iff.1 hb23)] at h | rw [if_pos hb] at h | rw [if_neg hb] at h | (simp only [hb, hT, reduceIte] at h) | skip
            exfalso
            revert h
            exact fun h => by cases k <;> simp [laws_FnRationalTables.j1] at h
           ·
            have hb23 := hb
            try simp only [hS, hE, ne_eq] at hb
            first | rw [if_pos hb23] at h | rw [if_neg (Bool.eq_false_iff.1 hb23)] at h | rw [if_pos hb] at h | rw [if_neg hb] at h | (simp only [hb, hT, reduceIte] at h) | skip
            refine L.Gy hb23 Y.mv ?_
            refine L.Gy hb23 Y.mv ?_
            refine L.Gy hb23 Y.bin ?_
            refine L.Y (Y.pk (c := false) hb23) ?_
            refine L.Y Y.mv ?_
            refine L.Gc (fun hb => ?_) (fun hb => ?_)
            ·
             have hb24 := hb
             try simp only [hS, hE, ne_eq] at hb
             first | rw [if_pos hb24] at h | rw [if_neg (Bool.eq_false_iff.1 hb24)] at h | rw [if_pos hb] at h | rw [if_neg hb] at h | (simp only [hb, hT, reduceIte] at h) | skip
             exfalso
             revert h
             exact fun h => by cases k <;> simp [laws_FnRationalTables.j1] at h
            ·
             have hb24 := hb
             try simp only [hS, hE, ne_eq] at hb
             first | rw [if_pos hb24] at h | rw [if_neg (Bool.eq_false_iff.1 hb24)] at h | rw [if_pos hb] at h | rw [if_neg hb] at h | (simp only [hb, hT, reduceIte] at h) | skip
             refine L.Gy hb24 Y.mv ?_
             refine L.Gy hb24 Y.mv ?_
             refine L.Gy hb24 (Y.bb Tryd.underlying4) ?_
             refine L.Y (Y.pk (c := false) hb24) ?_
             refine L.Y Y.mv ?_
             refine L.Gc (fun hb => ?_) (fun hb => ?_)
             ·
              have hb25 := hb
              try simp only [hS, hE, ne_eq] at hb
              first | rw [if_pos hb25] at h | rw [if_neg (Bool.eq_false_iff.1 hb25)] at h | rw [if_pos hb] at h | rw [if_neg hb] at h | (simp only [hb, hT, reduceIte] at h) | skip
              exfalso
              revert h
              exact fun h => by cases k <;> simp [laws_FnRationalTables.j1] at h
             ·
              have hb25 := hb
              try simp only [hS, hE, ne_eq] at hb
              first | rw [if_pos hb25] at h | rw [if_neg (Bool.eq_false_iff.1 hb25)] at h | rw [if_pos hb] at h | rw [if_neg hb] at h | (simp only [hb, hT, reduceIte] at h) | skip
              refine L.Gy hb25 Y.mv ?_
              refine L.Gy hb25 Y.mv ?_
              refine L.Gy hb25 Y.bin ?_
              refine L.Y (Y.pk (c := false) hb25) ?_
              refine L.Y Y.mv ?_
              refine L.Gc (fun hb => ?_) (fun hb => ?_)
              ·
               have hb26 := hb
               try simp only [hS, hE, ne_eq] at hb
               first | rw [if_pos hb26] at h | rw [if_neg (Bool.eq_false_iff.1 hb26)] at h | rw [if_pos hb] at h | rw [if_neg hb] at h | (simp only [hb, hT, reduceIte] at h) | skip
               exfalso
               revert h
               exact fun h => by cases k <;> simp [laws_FnRationalTables.j1] at h
              ·
               have hb26 := hb
               try simp only [hS, hE, ne_eq] at hb
               first | rw [if_pos hb26] at h | rw [if_neg (Bool.eq_false_iff.1 hb26)] at h | rw [if_pos hb] at h | rw [if_neg hb] at h | (simp only [hb, hT, reduceIte] at h) | skip
               refine L.Gy hb26 Y.mv ?_
               refine L.Gy hb26 Y.mv ?_
               refine L.Gy hb26 Y.bin ?_
               refine L.Y (Y.pk (c := false) hb26) ?_
               refine AList.nil ?_
               rcases k with _ | k
               ·
                exact absurd h (by simp [laws_FnRationalTables.j1])
               simp only [laws_FnRationalTables.j1] at h
               refine W.cond (fun hb => ?_) (fun hb => ?_)
               ·
                have hb27 := hb
                try simp only [hS, hE, ne_eq] at hb
                first | rw [if_pos hb27] at h | rw [if_neg (Bool.eq_false_iff.1 hb27)] at h | rw [if_pos hb] at h | rw [if_neg hb] at h | (simp only [hb, hT, reduceIte] at h) | skip
                exfalso
                revert h
                exact fun h => by simp at h
               ·
                have hb27 := hb
                try simp only [hS, hE, ne_eq] at hb
                first | rw [if_pos hb27] at h | rw [if_neg (Bool.eq_false_iff.1 hb27)] at h | rw [if_pos hb] at h | rw [if_neg hb] at h | (simp only [hb, hT, reduceIte] at h) | skip
                refine AWp.skip ?_
                refine AWp.seq ?_
                refine W.kp [0, 1, 4, 5, 6, 7, 8, 9, 10, 11, 12, 13, 14, 15, 16, 17, 18, 19, 20, 21, 22, 23, 24, 25, 26, 27, 28, 29, 30, 31, 32, 33, 34, 43, 68, 182] ?_
                refine AWp.region ?_
                refine L.Y Y.mv ?_
                refine L.Y Y.mv ?_
                replace h := Option.bind_eq_some_iff.1 h
                obtain ⟨⟨t496, t497⟩, hc28, h⟩ := h
                dsimp only at h
                refine L.C (C.callE (l := true) [] Tryd.func58 (impl_IsChoiceTable.ac _ _ _ _ _ hc28) .nil ?_)
                refine L.Y Y.mv ?_
                refine L.Y Y.ex ?_
                refine L.Y Y.ex ?_
                refine L.Y Y.asg ?_
                refine L.Y Y.asg ?_
                refine AList.nil ?_
                refine AWp.seq ?_
                refine W.kp [0, 1, 4, 5, 6, 7, 8, 9, 10, 11, 12, 13, 14, 15, 16, 17, 18, 19, 20, 21, 22, 23, 24, 25, 26, 27, 28, 29, 30, 31, 32, 33, 34, 35, 36, 43, 68, 182] ?_
                refine AWp.region ?_
                refine L.Y Y.mv ?_
                refine L.Y Y.mv ?_
                replace h := Option.bind_eq_some_iff.1 h
                obtain ⟨⟨t498, t499⟩, hc29, h⟩ := h
                dsimp only at h
                refine L.C (C.callE (l := true) [] Tryd.func59 (spec_IsChoiceTable.ac _ _ _ _ _ hc29) .nil ?_)
                refine L.Y Y.mv ?_
                refine L.Y Y.ex ?_
                refine L.Y Y.ex ?_
                refine L.Y Y.asg ?_
                refine L.Y Y.asg ?_
                refine AList.nil ?_
                refine AWp.seq ?_
                refine AWp.seq ?_
                refine W.kp [0, 1, 4, 5, 6, 7, 8, 9, 10, 11, 12, 13, 14, 15, 16, 17, 18, 19, 20, 21, 22, 23, 24, 25, 26, 27, 28, 29, 30, 31, 32, 33, 34, 35, 36, 37, 38, 43, 68, 182] ?_
                refine AWp.region ?_
                refine L.Y Y.mv ?_
                refine L.Y Y.mv ?_
                refine L.Y (Y.bb Tryd.underlying4) ?_
                refine L.Y Y.mv ?_
                refine L.Gc (fun hb => ?_) (fun hb => ?_)
                ·
                 have hb30 := hb
                 try simp only [hS, hE, ne_eq] at hb
                 first | rw [if_pos hb30] at h | rw [if_neg (Bool.eq_false_iff.1 hb30)] at h | rw [if_pos hb] at h | rw [if_neg hb] at h | (simp only [hb, hT, reduceIte] at h) | skip
                 exfalso
                 revert h
                 exact fun h => by cases k <;> simp [laws_FnRationalTables.j2] at h
                ·
                 have hb30 := hb
                 try simp only [hS, hE, ne_eq] at hb
                 first | rw [if_pos hb30] at h | rw [if_neg (Bool.eq_false_iff.1 hb30)] at h | rw [if_pos hb] at h | rw [if_neg hb] at h | (simp only [hb, hT, reduceIte] at h) | skip
                 refine L.Gy hb30 Y.mv ?_
                 refine L.Gy hb30 Y.mv ?_
                 refine L.Gy hb30 (Y.bb Tryd.underlying4) ?_
                 refine L.Y (Y.pk (c := false) hb30) ?_
                 refine L.Y Y.mv ?_
                 refine L.Gc (fun hb => ?_) (fun hb => ?_)
                 ·
                  have hb31 := hb
                  try simp only [hS, hE, ne_eq] at hb
                  first | rw [if_pos hb31] at h | rw [if_neg (Bool.eq_false_iff.1 hb31)] at h | rw [if_pos hb] at h | rw [if_neg hb] at h | (simp only [hb, hT, reduceIte] at h) | skip
                  exfalso
                  revert h
                  exact fun h => by cases k <;> simp [laws_FnRationalTables.j2] at h
                 ·
                  have hb31 := hb
                  try simp only [hS, hE, ne_eq] at hb
                  first | rw [if_pos hb31] at h | rw [if_neg (Bool.eq_false_iff.1 hb31)] at h | rw [if_pos hb] at h | rw [if_neg hb] at h | (simp only [hb, hT, reduceIte] at h) | skip
                  refine L.Gy hb31 Y.mv ?_
                  refine L.Gy hb31 Y.mv ?_
                  refine L.Gy hb31 (Y.bb Tryd.underlying4) ?_
                  refine L.Y (Y.pk (c := false) hb31) ?_
                  refine AList.nil ?_
                  rcases k with _ | k
                  ·
                   exact absurd h (by simp [laws_FnRationalTables.j2])
                  simp only [laws_FnRationalTables.j2] at h
                  refine W.cond (fun hb => ?_) (fun hb => ?_)
                  ·
                   have hb32 := hb
                   try simp only [hS, hE, ne_eq] at hb
                   first | rw [if_pos hb32] at h | rw [if_neg (Bool.eq_false_iff.1 hb32)] at h | rw [if_pos hb] at h | rw [if_neg hb] at h | (simp only [hb, hT, reduceIte] at h) | skip
                   exfalso
                   revert h
                   exact fun h => by simp at h
                  ·
                   have hb32 := hb
                   try simp only [hS, hE, ne_eq] at hb
                   first | rw [if_pos hb32] at h | rw [if_neg (Bool.eq_false_iff.1 hb32)] at h | rw [if_pos hb] at h | rw [if_neg hb] at h | (simp only [hb, hT, reduceIte] at h) | skip
                   refine AWp.skip ?_
                   refine AWp.seq ?_
                   refine AWp.seq ?_
                   refine W.kp [0, 1, 4, 5, 6, 7, 8, 9, 10, 11, 12, 13, 14, 15, 16, 17, 18, 19, 20, 21, 22, 23, 24, 25, 26, 27, 28, 29, 30, 31, 32, 33, 34, 35, 36, 37, 38, 43, 68, 182, 207] ?_
                   refine AWp.region ?_
                   refine L.Y Y.mv ?_
                   refine L.Y Y.nt ?_
                   refine AList.nil ?_
                   refine W.cond (fun hb => ?_) (fun hb => ?_)
                   ·
                    have hb33 := hb
                    try simp only [hS, hE, ne_eq] at hb
                    first | rw [if_pos hb33] at h | rw [if_neg (Bool.eq_false_iff.1 hb33)] at h | rw [if_pos hb] at h | rw [if_neg hb] at h | (simp only [hb, hT, reduceIte] at h) | skip
                    refine AWp.seq ?_
                    refine AWp.region ?_
                    refine L.Y Y.asg ?_
                    refine AList.nil ?_
                    refine AWp.ret ?_
                    first | (exfalso; cases h; done) | exact ⟨.inr rfl, [(4, _)], _, ⟨rfl, rfl⟩, IsPart.at [] [] base0 .nil (E.c .nil (hs := Sub.litE (LV h)))⟩
                   ·
                    have hb33 := hb
                    try simp only [hS, hE, ne_eq] at hb
                    first | rw [if_pos hb33] at h | rw [if_neg (Bool.eq_false_iff.1 hb33)] at h | rw [if_pos hb] at h | rw [if_neg hb] at h | (simp only [hb, hT, reduceIte] at h) | skip
                    refine AWp.skip ?_
                    refine AWp.seq ?_
                    refine AWp.region ?_
                    refine L.Y Y.mv ?_
                    refine L.Y Y.mv ?_
                    replace h := Option.bind_eq_some_iff.1 h
                    obtain ⟨⟨t500, t501, t504⟩, hc34, h⟩ := h
                    dsimp only at h
                    refine L.C (C.callE (l := true) [] Tryd.func60 (impl_RevealedOf.ac _ _ _ _ _ _ hc34) .nil ?_)
                    refine L.Y Y.mv ?_
                    refine L.Y Y.ex ?_
                    refine L.Y Y.ex ?_
                    refine L.M (M.al Y30) ?_
                    refine L.S (S.stb Y30) ?_
                    refine L.Y Y.asg ?_
                    refine AList.nil ?_
                    refine AWp.seq ?_
                    refine AWp.seq ?_
                    refine W.kp [0, 1, 4, 5, 6, 7, 8, 9, 10, 11, 12, 13, 14, 15, 16, 17, 18, 19, 20, 21, 22, 23, 24, 25, 26, 27, 28, 29, 30, 31, 32, 33, 34, 35, 36, 37, 38, 39, 40, 43, 68, 182, 207, 209] ?_
                    refine AWp.region ?_
                    refine L.Y Y.mv ?_
                    refine L.Y Y.nt ?_
                    refine L.Y Y.mv ?_
                    refine L.Gc (fun hb => ?_) (fun hb => ?_)
                    ·
                     have hb35 := hb
                     try simp only [hS, hE, ne_eq] at hb
                     first | rw [if_pos hb35] at h | rw [if_neg (Bool.eq_false_iff.1 hb35)] at h | rw [if_pos hb] at h | rw [if_neg hb] at h | (simp only [hb, hT, reduceIte] at h) | skip
                     exfalso
                     revert h
                     exact fun h => by simp at h
                    ·
                     have hb35 := hb
                     try simp only [hS, hE, ne_eq] at hb
                     first | rw [if_pos hb35] at h | rw [if_neg (Bool.eq_false_iff.1 hb35)] at h | rw [if_pos hb] at h | rw [if_neg hb] at h | (simp only [hb, hT, reduceIte] at h) | skip
                     refine L.Gy hb35 Y.mv ?_
                     refine L.Gy hb35 Y.mv ?_
                     refine L.Gy hb35 Y.nt ?_
                     refine L.Gy hb35 Y.mv ?_
                     refine L.Gc (fun hb => ?_) (fun hb => ?_)
                     ·
                      have hb36 := hb
                      try simp only [hS, hE, ne_eq] at hb
                      first | rw [if_pos hb36] at h | rw [if_neg (Bool.eq_false_iff.1 hb36)] at h | rw [if_pos hb] at h | rw [if_neg hb] at h | (simp only [hb, hT, reduceIte] at h) | skip
                      refine L.Gy hb36 Y.mv ?_
                      refine L.Gy hb36 Y.nt ?_
                      refine L.Gy hb35 (Y.pk (c := true) hb36) ?_
                      refine L.Gy hb35 (Y.bb Tryd.underlying4) ?_
                      refine L.Y (Y.pk (c := false) hb35) ?_
                      refine L.Y Y.mv ?_
                      refine L.Gc (fun hb => ?_) (fun hb => ?_)
                      ·
                       have hb37 := hb
                       try simp only [hS, hE, ne_eq] at hb
                       first | rw [if_pos hb37] at h | rw [if_neg (Bool.eq_false_iff.1 hb37)] at h | rw [if_pos hb] at h | rw [if_neg hb] at h | (simp only [hb, hT, reduceIte] at h) | skip
                       exfalso
                       revert h
                       exact fun h => by simp at h
                      ·
                       have hb37 := hb
                       try simp only [hS, hE, ne_eq] at hb
                       first | rw [if_pos hb37] at h | rw [if_neg (Bool.eq_false_iff.1 hb37)] at h | rw [if_pos hb] at h | rw [if_neg hb] at h | (simp only [hb, hT, reduceIte] at h) | skip
                       refine L.Gy hb37 Y.mv ?_
                       refine L.Gy hb37 Y.mv ?_
                       refine L.Gy hb37 Y.mv ?_
                       refine L.Gc (fun hb => ?_) (fun hb => ?_)
                       ·
                        first | exact Bool.false_ne_true ((Eq.symm (by assumption)).trans hb) | exact Bool.false_ne_true (hb.symm.trans (by assumption)) | exact DD hb
                       have hb38 := hb
                       refine L.Gy hb38 Y.mv ?_
                       refine L.Gy hb37 (Y.pk (c := false) hb38) ?_
                       refine L.Gy hb37 (Y.bb Tryd.underlying4) ?_
                       refine L.Y (Y.pk (c := false) hb37) ?_
                       refine AList.nil ?_
                       refine W.cond (fun hb => ?_) (fun hb => ?_)
                       ·
                        have hb39 := hb
                        try simp only [hS, hE, ne_eq] at hb
                        first | rw [if_pos hb39] at h | rw [if_neg (Bool.eq_false_iff.1 hb39)] at h | rw [if_pos hb] at h | rw [if_neg hb] at h | (simp only [hb, hT, reduceIte] at h) | skip
                        exfalso
                        revert h
                        exact fun h => by simp at h
                       ·
                        have hb39 := hb
                        try simp only [hS, hE, ne_eq] at hb
                        first | rw [if_pos hb39] at h | rw [if_neg (Bool.eq_false_iff.1 hb39)] at h | rw [if_pos hb] at h | rw [if_neg hb] at h | (simp only [hb, hT, reduceIte] at h) | skip
                        refine AWp.skip ?_
                        refine AWp.seq ?_
                        refine W.kp [0, 1, 4, 5, 6, 7, 8, 9, 10, 11, 12, 13, 14, 15, 16, 17, 18, 19, 20, 21, 22, 23, 24, 25, 26, 27, 28, 29, 30, 31, 32, 33, 34, 35, 36, 37, 38, 39, 40, 43, 68, 182, 207, 209, 235] ?_
                        refine AWp.region ?_
                        refine L.Y Y.mv ?_
                        refine L.Y Y.mv ?_
                        refine L.Gc (fun hb => ?_) (fun hb => ?_)
                        ·
                         have hb40 := hb
                         try simp only [hS, hE, ne_eq] at hb
                         first | rw [if_pos hb40] at h | rw [if_neg (Bool.eq_false_iff.1 hb40)] at h | rw [if_pos hb] at h | rw [if_neg hb] at h | (simp only [hb, hT, reduceIte] at h) | skip
                         refine L.Gs hb40 (S.ldN Tryd.underlying30 Y30) ?_
                         replace h := Option.bind_eq_some_iff.1 h
                         obtain ⟨t507, hc41, h⟩ := h
                         refine L.GC hb40 (C.callE (l := true) [] Tryd.func29 (impl_IsOrder.ac _ _ _ _ hc41) .nil ?_)
                         refine L.Y (Y.pk (c := true) hb40) ?_
                         refine L.Y Y.mv ?_
                         refine L.Y Y.nt ?_
                         refine L.Y Y.mv ?_
                         refine L.Gc (fun hb => ?_) (fun hb => ?_)
                         ·
                          have hb42 := hb
                          try simp only [hS, hE, ne_eq] at hb
                          first | rw [if_pos hb42] at h | rw [if_neg (Bool.eq_false_iff.1 hb42)] at h | rw [if_pos hb] at h | rw [if_neg hb] at h | (simp only [hb, hT, reduceIte] at h) | skip
                          refine L.Gy hb42 Y.mv ?_
                          refine L.Gy hb42 Y.nt ?_
                          refine L.Y (Y.pk (c := true) hb42) ?_
                          refine L.Y (Y.bb Tryd.underlying4) ?_
                          refine L.Y Y.asg ?_
                          refine AList.nil ?_
                          refine AWp.ret ?_
                          first | (exfalso; cases h; done) | exact ⟨.inr rfl, [(4, _)], _, ⟨rfl, rfl⟩, IsPart.at [] [] base0 .nil (E.c .nil (hs := Sub.litE (LV h)))⟩
                         ·
                          have hb42 := hb
                          try simp only [hS, hE, ne_eq] at hb
                          first | rw [if_pos hb42] at h | rw [if_neg (Bool.eq_false_iff.1 hb42)] at h | rw [if_pos hb] at h | rw [if_neg hb] at h | (simp only [hb, hT, reduceIte] at h) | skip
                          refine L.Gn hb42 ?_
                          refine L.Gn hb42 ?_
                          refine L.Y (Y.pk (c := false) hb42) ?_
                          refine L.Y (Y.bb Tryd.underlying4) ?_
                          refine L.Y Y.asg ?_
                          refine AList.nil ?_
                          refine AWp.ret ?_
                          first | (exfalso; cases h; done) | exact ⟨.inr rfl, [(4, _)], _, ⟨rfl, rfl⟩, IsPart.at [] [] base0 .nil (E.c .nil (hs := Sub.litE (LV h)))⟩
                        ·
                         have hb40 := hb
                         try simp only [hS, hE, ne_eq] at hb
                         first | rw [if_pos hb40] at h | rw [if_neg (Bool.eq_false_iff.1 hb40)] at h | rw [if_pos hb] at h | rw [if_neg hb] at h | (simp only [hb, hT, reduceIte] at h) | skip
                         refine L.Gn hb40 ?_
                         refine L.Gn hb40 ?_
                         refine L.Y (Y.pk (c := false) hb40) ?_
                         refine L.Y Y.mv ?_
                         refine L.Y Y.nt ?_
                         refine L.Y Y.mv ?_
                         refine L.Gc (fun hb => ?_) (fun hb => ?_)
                         ·
                          have hb43 := hb
                          try simp only [hS, hE, ne_eq] at hb
                          first | rw [if_pos hb43] at h | rw [if_neg (Bool.eq_false_iff.1 hb43)] at h | rw [if_pos hb] at h | rw [if_neg hb] at h | (simp only [hb, hT, reduceIte] at h) | skip
                          refine L.Gy hb43 Y.mv ?_
                          refine L.Gy hb43 Y.nt ?_
                          refine L.Y (Y.pk (c := true) hb43) ?_
                          refine L.Y (Y.bb Tryd.underlying4) ?_
                          refine L.Y Y.asg ?_
                          refine AList.nil ?_
                          refine AWp.ret ?_
                          first | (exfalso; cases h; done) | exact ⟨.inr rfl, [(4, _)], _, ⟨rfl, rfl⟩, IsPart.at [] [] base0 .nil (E.c .nil (hs := Sub.litE (LV h)))⟩
                         ·
                          have hb43 := hb
                          try simp only [hS, hE, ne_eq] at hb
                          first | rw [if_pos hb43] at h | rw [if_neg (Bool.eq_false_iff.1 hb43)] at h | rw [if_pos hb] at h | rw [if_neg hb] at h | (simp only [hb, hT, reduceIte] at h) | skip
                          refine L.Gn hb43 ?_
                          refine L.Gn hb43 ?_
                          refine L.Y (Y.pk (c := false) hb43) ?_
                          refine L.Y (Y.bb Tryd.underlying4) ?_
                          refine L.Y Y.asg ?_
                          refine AList.nil ?_
                          refine AWp.ret ?_
                          first | (exfalso; cases h; done) | exact ⟨.inr rfl, [(4, _)], _, ⟨rfl, rfl⟩, IsPart.at [] [] base0 .nil (E.c .nil (hs := Sub.litE (LV h)))⟩
                     ·
                      have hb36 := hb
                      try simp only [hS, hE, ne_eq] at hb
                      first | rw [if_pos hb36] at h | rw [if_neg (Bool.eq_false_iff.1 hb36)] at h | rw [if_pos hb] at h | rw [if_neg hb] at h | (simp only [hb, hT, reduceIte] at h) | skip
                      refine L.Gn hb36 ?_
                      refine L.Gn hb36 ?_
                      refine L.Gy hb35 (Y.pk (c := false) hb36) ?_
                      refine L.Gy hb35 (Y.bb Tryd.underlying4) ?_
                      refine L.Y (Y.pk (c := false) hb35) ?_
                      refine L.Y Y.mv ?_
                      refine L.Gc (fun hb => ?_) (fun hb => ?_)
                      ·
                       have hb44 := hb
                       try simp only [hS, hE, ne_eq] at hb
                       first | rw [if_pos hb44] at h | rw [if_neg (Bool.eq_false_iff.1 hb44)] at h | rw [if_pos hb] at h | rw [if_neg hb] at h | (simp only [hb, hT, reduceIte] at h) | skip
                       exfalso
                       revert h
                       exact fun h => by simp at h
                      ·
                       have hb44 := hb
                       try simp only [hS, hE, ne_eq] at hb
                       first | rw [if_pos hb44] at h | rw [if_neg (Bool.eq_false_iff.1 hb44)] at h | rw [if_pos hb] at h | rw [if_neg hb] at h | (simp only [hb, hT, reduceIte] at h) | skip
                       refine L.Gy hb44 Y.mv ?_
                       refine L.Gy hb44 Y.mv ?_
                       refine L.Gy hb44 Y.mv ?_
                       refine L.Gc (fun hb => ?_) (fun hb => ?_)
                       rotate_left
                       ·
                        first | exact Bool.false_ne_true ((Eq.symm (by assumption)).trans hb) | exact Bool.false_ne_true (hb.symm.trans (by assumption)) | exact DD hb
                       have hb45 := hb
                       refine L.Gn hb45 ?_
                       refine L.Gy hb44 (Y.pk (c := true) hb45) ?_
                       refine L.Gy hb44 (Y.bb Tryd.underlying4) ?_
                       refine L.Y (Y.pk (c := false) hb44) ?_
                       refine AList.nil ?_
                       refine W.cond (fun hb => ?_) (fun hb => ?_)
                       ·
                        have hb46 := hb
                        try simp only [hS, hE, ne_eq] at hb
                        first | rw [if_pos hb46] at h | rw [if_neg (Bool.eq_false_iff.1 hb46)] at h | rw [if_pos hb] at h | rw [if_neg hb] at h | (simp only [hb, hT, reduceIte] at h) | skip
                        exfalso
                        revert h
                        exact fun h => by simp at h
                       ·
                        have hb46 := hb
                        try simp only [hS, hE, ne_eq] at hb
                        first | rw [if_pos hb46] at h | rw [if_neg (Bool.eq_false_iff.1 hb46)] at h | rw [if_pos hb] at h | rw [if_neg hb] at h | (simp only [hb, hT, reduceIte] at h) | skip
                        refine AWp.skip ?_
                        refine AWp.seq ?_
                        refine W.kp [0, 1, 4, 5, 6, 7, 8, 9, 10, 11, 12, 13, 14, 15, 16, 17, 18, 19, 20, 21, 22, 23, 24, 25, 26, 27, 28, 29, 30, 31, 32, 33, 34, 35, 36, 37, 38, 39, 40, 43, 68, 182, 207, 209, 235] ?_
                        refine AWp.region ?_
                        refine L.Y Y.mv ?_
                        refine L.Y Y.mv ?_
                        refine L.Gc (fun hb => ?_) (fun hb => ?_)
                        ·
                         have hb47 := hb
                         try simp only [hS, hE, ne_eq] at hb
                         first | rw [if_pos hb47] at h | rw [if_neg (Bool.eq_false_iff.1 hb47)] at h | rw [if_pos hb] at h | rw [if_neg hb] at h | (simp only [hb, hT, reduceIte] at h) | skip
                         refine L.Gs hb47 (S.ldN Tryd.underlying30 Y30) ?_
                         replace h := Option.bind_eq_some_iff.1 h
                         obtain ⟨t506, hc48, h⟩ := h
                         refine L.GC hb47 (C.callE (l := true) [] Tryd.func29 (impl_IsOrder.ac _ _ _ _ hc48) .nil ?_)
                         refine L.Y (Y.pk (c := true) hb47) ?_
                         refine L.Y Y.mv ?_
                         refine L.Y Y.nt ?_
                         refine L.Y Y.mv ?_
                         refine L.Gc (fun hb => ?_) (fun hb => ?_)
                         ·
                          have hb49 := hb
                          try simp only [hS, hE, ne_eq] at hb
                          first | rw [if_pos hb49] at h | rw [if_neg (Bool.eq_false_iff.1 hb49)] at h | rw [if_pos hb] at h | rw [if_neg hb] at h | (simp only [hb, hT, reduceIte] at h) | skip
                          refine L.Gy hb49 Y.mv ?_
                          refine L.Gy hb49 Y.nt ?_
                          refine L.Y (Y.pk (c := true) hb49) ?_
                          refine L.Y (Y.bb Tryd.underlying4) ?_
                          refine L.Y Y.asg ?_
                          refine AList.nil ?_
                          refine AWp.ret ?_
                          first | (exfalso; cases h; done) | exact ⟨.inr rfl, [(4, _)], _, ⟨rfl, rfl⟩, IsPart.at [] [] base0 .nil (E.c .nil (hs := Sub.litE (LV h)))⟩
                         ·
                          have hb49 := hb
                          try simp only [hS, hE, ne_eq] at hb
                          first | rw [if_pos hb49] at h | rw [if_neg (Bool.eq_false_iff.1 hb49)] at h | rw [if_pos hb] at h | rw [if_neg hb] at h | (simp only [hb, hT, reduceIte] at h) | skip
                          refine L.Gn hb49 ?_
                          refine L.Gn hb49 ?_
                          refine L.Y (Y.pk (c := false) hb49) ?_
                          refine L.Y (Y.bb Tryd.underlying4) ?_
                          refine L.Y Y.asg ?_
                          refine AList.nil ?_
                          refine AWp.ret ?_
                          first | (exfalso; cases h; done) | exact ⟨.inr rfl, [(4, _)], _, ⟨rfl, rfl⟩, IsPart.at [] [] base0 .nil (E.c .nil (hs := Sub.litE (LV h)))⟩
                        ·
                         have hb47 := hb
                         try simp only [hS, hE, ne_eq] at hb
                         first | rw [if_pos hb47] at h | rw [if_neg (Bool.eq_false_iff.1 hb47)] at h | rw [if_pos hb] at h | rw [if_neg hb] at h | (simp only [hb, hT, reduceIte] at h) | skip
                         refine L.Gn hb47 ?_
                         refine L.Gn hb47 ?_
                         refine L.Y (Y.pk (c := false) hb47) ?_
                         refine L.Y Y.mv ?_
                         refine L.Y Y.nt ?_
                         refine L.Y Y.mv ?_
                         refine L.Gc (fun hb => ?_) (fun hb => ?_)
                         ·
                          have hb50 := hb
                          try simp only [hS, hE, ne_eq] at hb
                          first | rw [if_pos hb50] at h | rw [if_neg (Bool.eq_false_iff.1 hb50)] at h | rw [if_pos hb] at h | rw [if_neg hb] at h | (simp only [hb, hT, reduceIte] at h) | skip
                          refine L.Gy hb50 Y.mv ?_
                          refine L.Gy hb50 Y.nt ?_
                          refine L.Y (Y.pk (c := true) hb50) ?_
                          refine L.Y (Y.bb Tryd.underlying4) ?_
                          refine L.Y Y.asg ?_
                          refine AList.nil ?_
                          refine AWp.ret ?_
                          first | (exfalso; cases h; done) | exact ⟨.inr rfl, [(4, _)], _, ⟨rfl, rfl⟩, IsPart.at [] [] base0 .nil (E.c .nil (hs := Sub.litE (LV h)))⟩
                         ·
                          have hb50 := hb
                          try simp only [hS, hE, ne_eq] at hb
                          first | rw [if_pos hb50] at h | rw [if_neg (Bool.eq_false_iff.1 hb50)] at h | rw [if_pos hb] at h | rw [if_neg hb] at h | (simp only [hb, hT, reduceIte] at h) | skip
                          refine L.Gn hb50 ?_
                          refine L.Gn hb50 ?_
                          refine L.Y (Y.pk (c := false) hb50) ?_
                          refine L.Y (Y.bb Tryd.underlying4) ?_
                          refine L.Y Y.asg ?_
                          refine AList.nil ?_
                          refine AWp.ret ?_
                          first | (exfalso; cases h; done) | exact ⟨.inr rfl, [(4, _)], _, ⟨rfl, rfl⟩, IsPart.at [] [] base0 .nil (E.c .nil (hs := Sub.litE (LV h)))⟩

/-- THE ONE PURE STATEMENT of laws_FnRationalTables: yours. -/
def laws_FnRationalTables.Pure : Prop := ∀ (l0 : List Int) (l1 : List Int), l0.length ≤ maxLen → l0.length * 1 ≤ 140737488351232 → (∀ x ∈ l0, (Lit.int .u8 x).wf = true) → l1.length ≤ maxLen → l1.length * 1 ≤ 140737488351232 → (∀ x ∈ l1, (Lit.int .u8 x).wf = true) → ∃ k, laws_FnRationalTables.f k l0 l1 = some true
theorem laws_FnRationalTables.walk (P : laws_FnRationalTables.Pure) (a0 : Option Addr) (len0 cap0 : Nat) (z0 : List Int) (a1 : Option Addr) (len1 cap1 : Nat) (z1 : List Int) (w : World) (hT : TabIn w) (w0 : (a0 = none ∧ len0 = 0 ∧ cap0 = 0 ∧ z0 = []) ∨ ∃ x, a0 = some x ∧ len0 ≤ cap0 ∧ cap0 ≤ maxLen ∧ z0.length = cap0 ∧ (∀ i, i < z0.length → w.cell? (x.add i) = some (.int .u8 (z0.getD i 0))) ∧ ∀ n ∈ z0, (Lit.int .u8 n).wf = true) (y0 : len0 * 1 ≤ 140737488351232) (w1 : (a1 = none ∧ len1 = 0 ∧ cap1 = 0 ∧ z1 = []) ∨ ∃ x, a1 = some x ∧ len1 ≤ cap1 ∧ cap1 ≤ maxLen ∧ z1.length = cap1 ∧ (∀ i, i < z1.length → w.cell? (x.add i) = some (.int .u8 (z1.getD i 0))) ∧ ∀ n ∈ z1, (Lit.int .u8 n).wf = true) (y1 : len1 * 1 ≤ 140737488351232) :
  Calls Tryd.prog 8 #[.slice a0 len0 cap0, .slice a1 len1 cap1] w fun e w' => e = .returned (.bool true) ∧ Below w.heap.size w w' := by
 obtain ⟨hl0, hv0⟩ := VR.came (A0 := fun _ => .bool false) (H := []) w0
 obtain ⟨hm0, hw0⟩ := came_fits w0
 have y0' := y0
 rw [← hl0] at y0'
 obtain ⟨hl1, hv1⟩ := VR.came (A0 := fun _ => .bool false) (H := []) w1
 obtain ⟨hm1, hw1⟩ := came_fits w1
 have y1' := y1
 rw [← hl1] at y1'
 obtain ⟨k, h⟩ := P (z0.take len0) (z1.take len1) hm0 y0' hw0 hm1 y1' hw1
 refine ACalls.law (vs := [.slice a0 len0 cap0, .slice a1 len1 cap1]) (tabP_of hT) (laws_FnRationalTables.ac k (z0.take len0) (z1.take len1) h) ?_
 repeat' first | assumption | exact VRs_nil | exact VR_lit | refine VRs_cons ?_ ?_ | refine VR_agg ?_

end Go.Proofs.YtpippjgphndjmaaDoor.PFnRationalTables
