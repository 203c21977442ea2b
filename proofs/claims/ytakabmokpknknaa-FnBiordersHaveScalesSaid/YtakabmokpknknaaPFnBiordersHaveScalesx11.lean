-- Written by a program of this session's (wip/myprint2): the functions by the kit's print, the walks by awgen.py. Lean checks it.
import Derived.Test.YtakabmokpknknaaPFnBiordersHaveScalesx0
import Derived.Test.YtakabmokpknknaaPFnBiordersHaveScalesx2
import Derived.Test.YtakabmokpknknaaPFnBiordersHaveScalesx3
import Derived.Test.YtakabmokpknknaaPFnBiordersHaveScalesx5
import Derived.Test.YtakabmokpknknaaPFnBiordersHaveScalesx6
import Derived.Test.YtakabmokpknknaaPFnBiordersHaveScalesx8
import Derived.Test.YtakabmokpknknaaPFnBiordersHaveScalesx9
import Derived.Test.YtakabmokpknknaaPFnBiordersHaveScalesx10
namespace Go.Proofs.Ytakabmokpknknaa.PFnBiordersHaveScales
open Go.RowKit Go.Proofs.YtakabmokpknknaaW.PrintWords Go.Proofs.YtakabmokpknknaaW.PrintLast Go.Proofs.YtakabmokpknknaaW.PrintMore Go.Proofs.YtakabmokpknknaaM Go.Proofs.YtakabmokpknknaaA
attribute [local go_sem] max2_int min2_int max_two min_two max_three min_three max_four min_four   -- for this text's walks alone
set_option linter.unusedVariables false
set_option linter.unusedSimpArgs false

/-! ### laws_FnBiordersHaveScales: function 5 -/
mutual
def laws_FnBiordersHaveScales.j0 : Nat → List Int → List Int → List Int → Bool → List Int → Bool → Bool → Int → Int → List Int → Option (Bool)
 | 0, _, _, _, _, _, _, _, _, _, _ => none
 | k + 1, x1, x6, x7, x8, x12, x13, x122, x452000, x452001, x452002 => if x122 = true then (some false) else (if x8 = true then ((impl_TableOfScales.f k x6 x7).bind fun bt481 => (if bt481.2.2.2 = true then ((laws_vTable.f k bt481.1 bt481.2.1 bt481.2.2.1 x452000 x452001 x452002).bind fun t488 => (if t488 = true then (laws_FnBiordersHaveScales.j1 k x1 x12 x13 x452000 x452001 x452002) else (some false))) else (some false))) else (laws_FnBiordersHaveScales.j1 k x1 x12 x13 x452000 x452001 x452002))
def laws_FnBiordersHaveScales.j1 : Nat → List Int → List Int → Bool → Int → Int → List Int → Option (Bool)
 | 0, _, _, _, _, _, _ => none
 | k + 1, x1, x12, x13, x452000, x452001, x452002 => if x13 = true then (if 0 < (x12.length : Int) then (if 1 < (x12.length : Int) then ((laws_vMarked.f x452000 x452001 x452002 (wrap64 ((wrap64 ((rd x12 0) * x452001)) + (rd x12 1)))).bind fun t491 => (if t491 = true then (if 2 < (x12.length : Int) then (if 3 < (x12.length : Int) then ((laws_vMarked.f x452000 x452001 x452002 (wrap64 ((wrap64 ((rd x12 2) * x452001)) + (rd x12 3)))).bind fun t494 => (if t494 = true then ((laws_vMarked.f x452000 x452001 x452002 (wrap64 ((wrap64 ((rd x12 0) * x452001)) + (rd x12 3)))).bind fun t497 => (if t497 = true then (some false) else ((laws_vMarked.f x452000 x452001 x452002 (wrap64 ((wrap64 ((rd x12 2) * x452001)) + (rd x12 1)))).bind fun t500 => (if t500 = true then (some false) else (laws_FnBiordersHaveScales.j2 k x1))))) else (some false))) else (none)) else (none)) else (some false))) else (none)) else (none)) else (laws_FnBiordersHaveScales.j2 k x1)
def laws_FnBiordersHaveScales.j2 : Nat → List Int → Option (Bool)
 | 0, _ => none
 | k + 1, x1 => (spec_DrawTableOfScales.f k x1).bind fun bt501 => ((impl_TableOfScales.f k bt501.1 bt501.2).bind fun bt507 => ((spec_TableOfScales.f k bt501.1 bt501.2).bind fun bt514 => (if (bt507.2.2.2 != bt514.2.2.2) = true then (laws_FnBiordersHaveScales.j3 k bt507.2.2.2 true bt507.1 bt507.2.1 bt507.2.2.1) else ((laws_vTable.f k bt507.1 bt507.2.1 bt507.2.2.1 bt514.1 bt514.2.1 bt514.2.2.1).bind fun t521 => (laws_FnBiordersHaveScales.j3 k bt507.2.2.2 (!t521) bt507.1 bt507.2.1 bt507.2.2.1)))))
def laws_FnBiordersHaveScales.j3 : Nat → Bool → Bool → Int → Int → List Int → Option (Bool)
 | 0, _, _, _, _, _ => none
 | k + 1, x24, x218, x514000, x514001, x514002 => if x218 = true then (some false) else (if x24 = true then ((impl_IsBiorder.f k x514000 x514001 x514002).bind fun bt522 => ((impl_MirrorTable.f k x514000 x514001 x514002).bind fun bt524 => ((impl_IsBiorder.f k bt524.1 bt524.2.1 bt524.2.2.1).bind fun bt531 => ((impl_OppositeTable.f k x514000 x514001 x514002).bind fun bt533 => ((impl_IsBiorder.f k bt533.1 bt533.2.1 bt533.2.2.1).bind fun bt540 => (if bt522.2 = true then (if bt522.1 = true then (if bt524.2.2.2 = true then (if bt531.2 = true then (if bt531.1 = true then (if bt533.2.2.2 = true then (if bt540.2 = true then (some bt540.1) else (some false)) else (some false)) else (some false)) else (some false)) else (some false)) else (some false)) else (some false))))))) else (some true))
end
def laws_FnBiordersHaveScales.f (k : Nat) (l0 : List Int) (l1 : List Int) : Option (Bool) := (laws_big.f l0 l1).bind fun t445 => (if t445 = true then (some true) else ((spec_DrawScalesOf.f k l0).bind fun bt446 => ((impl_ScalesOf.f k bt446.1 bt446.2.1 bt446.2.2).bind fun bt452 => ((spec_ScalesOf.f k bt446.1 bt446.2.1 bt446.2.2).bind fun bt459 => ((impl_FourCells.f k bt446.1 bt446.2.1 bt446.2.2).bind fun bt466 => ((spec_FourCells.f k bt446.1 bt446.2.1 bt446.2.2).bind fun bt470 => ((impl_IsBiorder.f k bt446.1 bt446.2.1 bt446.2.2).bind fun bt474 => (if (bt452.2.2 != bt459.2.2) = true then (laws_FnBiordersHaveScales.j0 k l1 bt452.1 bt452.2.1 bt452.2.2 bt466.1 bt466.2 true bt446.1 bt446.2.1 bt446.2.2) else ((laws_vSame.f k bt452.1 bt459.1).bind fun t476 => (if t476 = true then ((laws_vSame.f k bt452.2.1 bt459.2.1).bind fun t477 => (if t477 = true then (if (bt466.2 != bt470.2) = true then (laws_FnBiordersHaveScales.j0 k l1 bt452.1 bt452.2.1 bt452.2.2 bt466.1 bt466.2 true bt446.1 bt446.2.1 bt446.2.2) else ((laws_vSame.f k bt466.1 bt470.1).bind fun t478 => (if t478 = true then (if bt452.2.2 = true then (if bt466.2 = true then (laws_FnBiordersHaveScales.j0 k l1 bt452.1 bt452.2.1 bt452.2.2 bt466.1 bt466.2 true bt446.1 bt446.2.1 bt446.2.2) else (if (bt474.1 != bt452.2.2) = true then (laws_FnBiordersHaveScales.j0 k l1 bt452.1 bt452.2.1 bt452.2.2 bt466.1 bt466.2 true bt446.1 bt446.2.1 bt446.2.2) else ((impl_IsTable.f k bt446.1 bt446.2.1 bt446.2.2).bind fun t479 => (if (bt474.2 != t479) = true then (laws_FnBiordersHaveScales.j0 k l1 bt452.1 bt452.2.1 bt452.2.2 bt466.1 bt466.2 true bt446.1 bt446.2.1 bt446.2.2) else (if bt474.2 = true then (if bt474.1 = true then (laws_FnBiordersHaveScales.j0 k l1 bt452.1 bt452.2.1 bt452.2.2 bt466.1 bt466.2 false bt446.1 bt446.2.1 bt446.2.2) else (laws_FnBiordersHaveScales.j0 k l1 bt452.1 bt452.2.1 bt452.2.2 bt466.1 bt466.2 (!bt466.2) bt446.1 bt446.2.1 bt446.2.2)) else (laws_FnBiordersHaveScales.j0 k l1 bt452.1 bt452.2.1 bt452.2.2 bt466.1 bt466.2 false bt446.1 bt446.2.1 bt446.2.2)))))) else (if (bt474.1 != bt452.2.2) = true then (laws_FnBiordersHaveScales.j0 k l1 bt452.1 bt452.2.1 bt452.2.2 bt466.1 bt466.2 true bt446.1 bt446.2.1 bt446.2.2) else ((impl_IsTable.f k bt446.1 bt446.2.1 bt446.2.2).bind fun t480 => (if (bt474.2 != t480) = true then (laws_FnBiordersHaveScales.j0 k l1 bt452.1 bt452.2.1 bt452.2.2 bt466.1 bt466.2 true bt446.1 bt446.2.1 bt446.2.2) else (if bt474.2 = true then (if bt474.1 = true then (laws_FnBiordersHaveScales.j0 k l1 bt452.1 bt452.2.1 bt452.2.2 bt466.1 bt466.2 false bt446.1 bt446.2.1 bt446.2.2) else (laws_FnBiordersHaveScales.j0 k l1 bt452.1 bt452.2.1 bt452.2.2 bt466.1 bt466.2 (!bt466.2) bt446.1 bt446.2.1 bt446.2.2)) else (laws_FnBiordersHaveScales.j0 k l1 bt452.1 bt452.2.1 bt452.2.2 bt466.1 bt466.2 false bt446.1 bt446.2.1 bt446.2.2)))))) else (laws_FnBiordersHaveScales.j0 k l1 bt452.1 bt452.2.1 bt452.2.2 bt466.1 bt466.2 true bt446.1 bt446.2.1 bt446.2.2)))) else (laws_FnBiordersHaveScales.j0 k l1 bt452.1 bt452.2.1 bt452.2.2 bt466.1 bt466.2 true bt446.1 bt446.2.1 bt446.2.2))) else (laws_FnBiordersHaveScales.j0 k l1 bt452.1 bt452.2.1 bt452.2.2 bt466.1 bt466.2 true bt446.1 bt446.2.1 bt446.2.2)))))))))))
set_option maxRecDepth 100000 in
set_option maxHeartbeats 20000000 in
theorem laws_FnBiordersHaveScales.ac (k : Nat) (l0 : List Int) (l1 : List Int)  (h : laws_FnBiordersHaveScales.f k l0 l1 = some true) :
  ACalls Try.prog 5 [.row 1 l0.length false (ints .u8 l0), .row 1 l1.length false (ints .u8 l1)] [] (fun v H' => v = .lit (.bool true) ∧ H' = []) := by
 refine ACalls.ofP [4] Try.func5 rfl (by exact Nat.le_of_ble_eq_true rfl) rfl (by decide) ?_
 simp only [Try.ntmps5, env0, laws_FnBiordersHaveScales.f] at h ⊢
 refine AWp.seq ?_
 refine AWp.region ?_
 refine L.Y Y.asg ?_
 refine AList.nil ?_
 refine AWp.seq ?_
 refine AWp.seq ?_
 refine AWp.region ?_
 refine L.Y Y.mv ?_
 refine L.Y Y.mv ?_
 replace h := Option.bind_eq_some_iff.1 h
 obtain ⟨t445, hc4, h⟩ := h
 refine L.C (C.callE (l := true) [] Try.func18 (laws_big.ac _ _ _ hc4) .nil ?_)
 refine AList.nil ?_
 refine W.cond (fun hb => ?_) (fun hb => ?_)
 ·
  have hb5 := hb
  try simp only [hS, hE, ne_eq] at hb
  first | rw [if_pos hb5] at h | rw [if_neg (Bool.eq_false_iff.1 hb5)] at h | rw [if_pos hb] at h | rw [if_neg hb] at h | (simp only [hb, hT, reduceIte] at h) | skip
  refine AWp.seq ?_
  refine AWp.region ?_
  refine L.Y Y.asg ?_
  refine AList.nil ?_
  refine AWp.ret ?_
  first | (exfalso; cases h; done) | exact ⟨.inr rfl, [(4, _)], _, ⟨rfl, rfl⟩, IsPart.at [] [] base0 .nil (E.c .nil (hs := Sub.litE (LV h)))⟩
 ·
  have hb5 := hb
  try simp only [hS, hE, ne_eq] at hb
  first | rw [if_pos hb5] at h | rw [if_neg (Bool.eq_false_iff.1 hb5)] at h | rw [if_pos hb] at h | rw [if_neg hb] at h | (simp only [hb, hT, reduceIte] at h) | skip
  refine AWp.skip ?_
  refine AWp.seq ?_
  refine AWp.region ?_
  refine L.Y Y.mv ?_
  replace h := Option.bind_eq_some_iff.1 h
  obtain ⟨⟨t446, t447, t448⟩, hc7, h⟩ := h
  dsimp only at h
  refine L.C (C.callE (l := true) [] Try.func19 (spec_DrawScalesOf.ac _ _ _ _ _ hc7) .nil ?_)
  refine L.M (M.al Y26) ?_
  refine L.S (S.stb Y26) ?_
  refine AList.nil ?_
  refine AWp.seq ?_
  refine W.kp [0, 1, 4, 5, 39] ?_
  refine AWp.region ?_
  refine L.S (S.ldN Try.underlying26 Y26) ?_
  replace h := Option.bind_eq_some_iff.1 h
  obtain ⟨⟨t452, t455, t458⟩, hc9, h⟩ := h
  dsimp only at h
  refine L.C (C.callE (l := true) [] Try.func14 (impl_ScalesOf.ac _ _ _ _ _ _ _ hc9) .nil ?_)
  refine L.Y Y.mv ?_
  refine L.Y Y.ex ?_
  refine L.Y Y.ex ?_
  refine L.Y Y.ex ?_
  refine L.Y Y.asg ?_
  refine L.Y Y.asg ?_
  refine L.Y Y.asg ?_
  refine AList.nil ?_
  refine AWp.seq ?_
  refine W.kp [0, 1, 4, 5, 6, 7, 8, 39] ?_
  refine AWp.region ?_
  refine L.S (S.ldN Try.underlying26 Y26) ?_
  replace h := Option.bind_eq_some_iff.1 h
  obtain ⟨⟨t459, t462, t465⟩, hc11, h⟩ := h
  dsimp only at h
  refine L.C (C.callE (l := true) [] Try.func13 (spec_ScalesOf.ac _ _ _ _ _ _ _ hc11) .nil ?_)
  refine L.Y Y.mv ?_
  refine L.Y Y.ex ?_
  refine L.Y Y.ex ?_
  refine L.Y Y.ex ?_
  refine L.Y Y.asg ?_
  refine L.Y Y.asg ?_
  refine L.Y Y.asg ?_
  refine AList.nil ?_
  refine AWp.seq ?_
  refine W.kp [0, 1, 4, 5, 6, 7, 8, 9, 10, 11, 39] ?_
  refine AWp.region ?_
  refine L.S (S.ldN Try.underlying26 Y26) ?_
  replace h := Option.bind_eq_some_iff.1 h
  obtain ⟨⟨t466, t469⟩, hc13, h⟩ := h
  dsimp only at h
  refine L.C (C.callE (l := true) [] Try.func20 (impl_FourCells.ac _ _ _ _ _ _ hc13) .nil ?_)
  refine L.Y Y.mv ?_
  refine L.Y Y.ex ?_
  refine L.Y Y.ex ?_
  refine L.Y Y.asg ?_
  refine L.Y Y.asg ?_
  refine AList.nil ?_
  refine AWp.seq ?_
  refine W.kp [0, 1, 4, 5, 6, 7, 8, 9, 10, 11, 12, 13, 39] ?_
  refine AWp.region ?_
  refine L.S (S.ldN Try.underlying26 Y26) ?_
  replace h := Option.bind_eq_some_iff.1 h
  obtain ⟨⟨t470, t473⟩, hc15, h⟩ := h
  dsimp only at h
  refine L.C (C.callE (l := true) [] Try.func21 (spec_FourCells.ac _ _ _ _ _ _ hc15) .nil ?_)
  refine L.Y Y.mv ?_
  refine L.Y Y.ex ?_
  refine L.Y Y.ex ?_
  refine L.Y Y.asg ?_
  refine L.Y Y.asg ?_
  refine AList.nil ?_
  refine AWp.seq ?_
  refine W.kp [0, 1, 4, 5, 6, 7, 8, 9, 10, 11, 12, 13, 14, 15, 39] ?_
  refine AWp.region ?_
  refine L.S (S.ldN Try.underlying26 Y26) ?_
  replace h := Option.bind_eq_some_iff.1 h
  obtain ⟨⟨t474, t475⟩, hc17, h⟩ := h
  dsimp only at h
  refine L.C (C.callE (l := true) [] Try.func22 (impl_IsBiorder.ac _ _ _ _ _ _ hc17) .nil ?_)
  refine L.Y Y.mv ?_
  refine L.Y Y.ex ?_
  refine L.Y Y.ex ?_
  refine L.Y Y.asg ?_
  refine L.Y Y.asg ?_
  refine AList.nil ?_
  refine AWp.seq ?_
  refine AWp.cut (fun e H => ∃ (kk : Nat) (x6 : List Int) (x7 : List Int) (x8 : Bool) (x12 : List Int) (x13 : Bool) (x122 : Bool) (x452000 : Int) (x452001 : Int) (x452002 : List Int), e = [(1, .row 1 l1.length false (ints .u8 l1)), (5, .ptr 0 0), (6, .own 1 x6.length), (7, .own 2 x7.length), (8, .lit (.bool x8)), (12, .own 3 x12.length), (13, .lit (.bool x13)), (122, .lit (.bool x122))] ∧ H = [.bx 26 [.lit (.int .i64 x452000), .lit (.int .i64 x452001), .own 4 x452002.length], .sl 3 1 x6.length false (ints .i64 x6), .sl 3 1 x7.length false (ints .i64 x7), .sl 3 1 x12.length false (ints .i64 x12), .sl 3 1 x452002.length false (ints .i64 x452002)] ∧ laws_FnBiordersHaveScales.j0 kk l1 x6 x7 x8 x12 x13 x122 x452000 x452001 x452002 = some true) ?_ ?_
  ·
   skip
   refine W.kp [0, 1, 4, 5, 6, 7, 8, 9, 10, 11, 12, 13, 14, 15, 16, 17, 39] ?_
   refine AWp.region ?_
   refine L.Y Y.mv ?_
   refine L.Y Y.mv ?_
   refine L.Y (Y.bb Try.underlying4) ?_
   refine L.Y Y.mv ?_
   refine L.Gc (fun hb => ?_) (fun hb => ?_)
   ·
    have hb70 := hb
    try simp only [hS, hE, ne_eq] at hb
    first | rw [if_pos hb70] at h | rw [if_neg (Bool.eq_false_iff.1 hb70)] at h | rw [if_pos hb] at h | rw [if_neg hb] at h | (simp only [hb, hT, reduceIte] at h) | skip
    exfalso
    revert h
    exact fun h => by cases k <;> simp [laws_FnBiordersHaveScales.j0] at h
   ·
    have hb70 := hb
    try simp only [hS, hE, ne_eq] at hb
    first | rw [if_pos hb70] at h | rw [if_neg (Bool.eq_false_iff.1 hb70)] at h | rw [if_pos hb] at h | rw [if_neg hb] at h | (simp only [hb, hT, reduceIte] at h) | skip
    refine L.Gy hb70 Y.mv ?_
    refine L.Gy hb70 Y.mv ?_
    replace h := Option.bind_eq_some_iff.1 h
    obtain ⟨t476, hc71, h⟩ := h
    refine L.GC hb70 (C.callE (l := true) [] Try.func23 (laws_vSame.ac _ _ _ _ hc71) .nil ?_)
    refine L.Gy hb70 Y.nt ?_
    refine L.Y (Y.pk (c := false) hb70) ?_
    refine L.Y Y.mv ?_
    refine L.Gc (fun hb => ?_) (fun hb => ?_)
    ·
     have hb72 := hb
     try simp only [hS, hE, ne_eq] at hb
     first | rw [if_pos hb72] at h | rw [if_neg (Bool.eq_false_iff.1 hb72)] at h | rw [if_pos hb] at h | rw [if_neg hb] at h | (simp only [hb, hT, reduceIte] at h) | skip
     exfalso
     revert h
     exact fun h => by cases k <;> simp [laws_FnBiordersHaveScales.j0] at h
    ·
     have hb72 := hb
     try simp only [hS, hE, ne_eq] at hb
     first | rw [if_pos hb72] at h | rw [if_neg (Bool.eq_false_iff.1 hb72)] at h | rw [if_pos hb] at h | rw [if_neg hb] at h | (simp only [hb, hT, reduceIte] at h) | skip
     refine L.Gy hb72 Y.mv ?_
     refine L.Gy hb72 Y.mv ?_
     replace h := Option.bind_eq_some_iff.1 h
     obtain ⟨t477, hc73, h⟩ := h
     refine L.GC hb72 (C.callE (l := true) [] Try.func23 (laws_vSame.ac _ _ _ _ hc73) .nil ?_)
     refine L.Gy hb72 Y.nt ?_
     refine L.Y (Y.pk (c := false) hb72) ?_
     refine L.Y Y.mv ?_
     refine L.Gc (fun hb => ?_) (fun hb => ?_)
     ·
      have hb74 := hb
      try simp only [hS, hE, ne_eq] at hb
      first | rw [if_pos hb74] at h | rw [if_neg (Bool.eq_false_iff.1 hb74)] at h | rw [if_pos hb] at h | rw [if_neg hb] at h | (simp only [hb, hT, reduceIte] at h) | skip
      exfalso
      revert h
      exact fun h => by cases k <;> simp [laws_FnBiordersHaveScales.j0] at h
     ·
      have hb74 := hb
      try simp only [hS, hE, ne_eq] at hb
      first | rw [if_pos hb74] at h | rw [if_neg (Bool.eq_false_iff.1 hb74)] at h | rw [if_pos hb] at h | rw [if_neg hb] at h | (simp only [hb, hT, reduceIte] at h) | skip
      refine L.Gy hb74 Y.mv ?_
      refine L.Gy hb74 Y.mv ?_
      refine L.Gy hb74 (Y.bb Try.underlying4) ?_
      refine L.Y (Y.pk (c := false) hb74) ?_
      refine L.Y Y.mv ?_
      refine L.Gc (fun hb => ?_) (fun hb => ?_)
      ·
       have hb75 := hb
       try simp only [hS, hE, ne_eq] at hb
       first | rw [if_pos hb75] at h | rw [if_neg (Bool.eq_false_iff.1 hb75)] at h | rw [if_pos hb] at h | rw [if_neg hb] at h | (simp only [hb, hT, reduceIte] at h) | skip
       exfalso
       revert h
       exact fun h => by cases k <;> simp [laws_FnBiordersHaveScales.j0] at h
      ·
       have hb75 := hb
       try simp only [hS, hE, ne_eq] at hb
       first | rw [if_pos hb75] at h | rw [if_neg (Bool.eq_false_iff.1 hb75)] at h | rw [if_pos hb] at h | rw [if_neg hb] at h | (simp only [hb, hT, reduceIte] at h) | skip
       refine L.Gy hb75 Y.mv ?_
       refine L.Gy hb75 Y.mv ?_
       replace h := Option.bind_eq_some_iff.1 h
       obtain ⟨t478, hc76, h⟩ := h
       refine L.GC hb75 (C.callE (l := true) [] Try.func23 (laws_vSame.ac _ _ _ _ hc76) .nil ?_)
       refine L.Gy hb75 Y.nt ?_
       refine L.Y (Y.pk (c := false) hb75) ?_
       refine L.Y Y.mv ?_
       refine L.Gc (fun hb => ?_) (fun hb => ?_)
       ·
        have hb77 := hb
        try simp only [hS, hE, ne_eq] at hb
        first | rw [if_pos hb77] at h | rw [if_neg (Bool.eq_false_iff.1 hb77)] at h | rw [if_pos hb] at h | rw [if_neg hb] at h | (simp only [hb, hT, reduceIte] at h) | skip
        exfalso
        revert h
        exact fun h => by cases k <;> simp [laws_FnBiordersHaveScales.j0] at h
       ·
        have hb77 := hb
        try simp only [hS, hE, ne_eq] at hb
        first | rw [if_pos hb77] at h | rw [if_neg (Bool.eq_false_iff.1 hb77)] at h | rw [if_pos hb] at h | rw [if_neg hb] at h | (simp only [hb, hT, reduceIte] at h) | skip
        refine L.Gy hb77 Y.mv ?_
        refine L.Gy hb77 Y.mv ?_
        refine L.Gc (fun hb => ?_) (fun hb => ?_)
        ·
         have hb78 := hb
         try simp only [hS, hE, ne_eq] at hb
         first | rw [if_pos hb78] at h | rw [if_neg (Bool.eq_false_iff.1 hb78)] at h | rw [if_pos hb] at h | rw [if_neg hb] at h | (simp only [hb, hT, reduceIte] at h) | skip
         refine L.Gy hb78 Y.mv ?_
         refine L.Gy hb77 (Y.pk (c := true) hb78) ?_
         refine L.Y (Y.pk (c := false) hb77) ?_
         refine L.Y Y.mv ?_
         refine L.Gc (fun hb => ?_) (fun hb => ?_)
         ·
          have hb79 := hb
          try simp only [hS, hE, ne_eq] at hb
          first | rw [if_pos hb79] at h | rw [if_neg (Bool.eq_false_iff.1 hb79)] at h | rw [if_pos hb] at h | rw [if_neg hb] at h | (simp only [hb, hT, reduceIte] at h) | skip
          exfalso
          revert h
          exact fun h => by cases k <;> simp [laws_FnBiordersHaveScales.j0] at h
         ·
          have hb79 := hb
          try simp only [hS, hE, ne_eq] at hb
          first | rw [if_pos hb79] at h | rw [if_neg (Bool.eq_false_iff.1 hb79)] at h | rw [if_pos hb] at h | rw [if_neg hb] at h | (simp only [hb, hT, reduceIte] at h) | skip
          refine L.Gy hb79 Y.mv ?_
          refine L.Gy hb79 Y.mv ?_
          refine L.Gy hb79 (Y.bb Try.underlying4) ?_
          refine L.Y (Y.pk (c := false) hb79) ?_
          refine L.Y Y.mv ?_
          refine L.Gc (fun hb => ?_) (fun hb => ?_)
          ·
           have hb80 := hb
           try simp only [hS, hE, ne_eq] at hb
           first | rw [if_pos hb80] at h | rw [if_neg (Bool.eq_false_iff.1 hb80)] at h | rw [if_pos hb] at h | rw [if_neg hb] at h | (simp only [hb, hT, reduceIte] at h) | skip
           exfalso
           revert h
           exact fun h => by cases k <;> simp [laws_FnBiordersHaveScales.j0] at h
          ·
           have hb80 := hb
           try simp only [hS, hE, ne_eq] at hb
           first | rw [if_pos hb80] at h | rw [if_neg (Bool.eq_false_iff.1 hb80)] at h | rw [if_pos hb] at h | rw [if_neg hb] at h | (simp only [hb, hT, reduceIte] at h) | skip
           refine L.Gy hb80 Y.mv ?_
           refine L.Gs hb80 (S.ldN Try.underlying26 Y26) ?_
           replace h := Option.bind_eq_some_iff.1 h
           obtain ⟨t479, hc81, h⟩ := h
           refine L.GC hb80 (C.callE (l := true) [] Try.func24 (impl_IsTable.ac _ _ _ _ _ hc81) .nil ?_)
           refine L.Gy hb80 (Y.bb Try.underlying4) ?_
           refine L.Y (Y.pk (c := false) hb80) ?_
           refine L.Y Y.mv ?_
           refine L.Gc (fun hb => ?_) (fun hb => ?_)
           ·
            have hb82 := hb
            try simp only [hS, hE, ne_eq] at hb
            first | rw [if_pos hb82] at h | rw [if_neg (Bool.eq_false_iff.1 hb82)] at h | rw [if_pos hb] at h | rw [if_neg hb] at h | (simp only [hb, hT, reduceIte] at h) | skip
            exfalso
            revert h
            exact fun h => by cases k <;> simp [laws_FnBiordersHaveScales.j0] at h
           ·
            have hb82 := hb
            try simp only [hS, hE, ne_eq] at hb
            first | rw [if_pos hb82] at h | rw [if_neg (Bool.eq_false_iff.1 hb82)] at h | rw [if_pos hb] at h | rw [if_neg hb] at h | (simp only [hb, hT, reduceIte] at h) | skip
            refine L.Gy hb82 Y.mv ?_
            refine L.Gy hb82 Y.mv ?_
            refine L.Gc (fun hb => ?_) (fun hb => ?_)
            ·
             have hb83 := hb
             try simp only [hS, hE, ne_eq] at hb
             first | rw [if_pos hb83] at h | rw [if_neg (Bool.eq_false_iff.1 hb83)] at h | rw [if_pos hb] at h | rw [if_neg hb] at h | (simp only [hb, hT, reduceIte] at h) | skip
             refine L.Gy hb83 Y.mv ?_
             refine L.Gy hb83 Y.nt ?_
             refine L.Gy hb82 (Y.pk (c := true) hb83) ?_
             refine L.Gy hb82 Y.mv ?_
             refine L.Gc (fun hb => ?_) (fun hb => ?_)
             ·
              have hb84 := hb
              try simp only [hS, hE, ne_eq] at hb
              first | rw [if_pos hb84] at h | rw [if_neg (Bool.eq_false_iff.1 hb84)] at h | rw [if_pos hb] at h | rw [if_neg hb] at h | (simp only [hb, hT, reduceIte] at h) | skip
              refine L.Gy hb84 Y.mv ?_
              refine L.Gy hb84 Y.nt ?_
              refine L.Gy hb82 (Y.pk (c := true) hb84) ?_
              refine L.Y (Y.pk (c := false) hb82) ?_
              refine AList.nil ?_
              exact ⟨_, _, ⟨_, _, _, _, _, _, _, _, _, _, rfl, rfl, h⟩, IsPart.at [] [1, 2, 3, 6, 0] base0 (H.c (H.c (H.c (H.c (H.c .nil))))) (E.c (E.c (E.c (E.c (E.c (E.c (E.c (E.c .nil))))))))⟩
             ·
              have hb84 := hb
              try simp only [hS, hE, ne_eq] at hb
              first | rw [if_pos hb84] at h | rw [if_neg (Bool.eq_false_iff.1 hb84)] at h | rw [if_pos hb] at h | rw [if_neg hb] at h | (simp only [hb, hT, reduceIte] at h) | skip
              refine L.Gn hb84 ?_
              refine L.Gn hb84 ?_
              refine L.Gy hb82 (Y.pk (c := false) hb84) ?_
              refine L.Y (Y.pk (c := false) hb82) ?_
              refine AList.nil ?_
              exact ⟨_, _, ⟨_, _, _, _, _, _, _, _, _, _, rfl, rfl, h⟩, IsPart.at [] [1, 2, 3, 6, 0] base0 (H.c (H.c (H.c (H.c (H.c .nil))))) (E.c (E.c (E.c (E.c (E.c (E.c (E.c (E.c .nil))))))))⟩
            ·
             have hb83 := hb
             try simp only [hS, hE, ne_eq] at hb
             first | rw [if_pos hb83] at h | rw [if_neg (Bool.eq_false_iff.1 hb83)] at h | rw [if_pos hb] at h | rw [if_neg hb] at h | (simp only [hb, hT, reduceIte] at h) | skip
             refine L.Gn hb83 ?_
             refine L.Gn hb83 ?_
             refine L.Gy hb82 (Y.pk (c := false) hb83) ?_
             refine L.Gy hb82 Y.mv ?_
             refine L.Gc (fun hb => ?_) (fun hb => ?_)
             ·
              first | exact Bool.false_ne_true ((Eq.symm (by assumption)).trans hb) | exact Bool.false_ne_true (hb.symm.trans (by assumption)) | exact DD hb
             have hb85 := hb
             refine L.Gn hb85 ?_
             refine L.Gn hb85 ?_
             refine L.Gy hb82 (Y.pk (c := false) hb85) ?_
             refine L.Y (Y.pk (c := false) hb82) ?_
             refine AList.nil ?_
             exact ⟨_, _, ⟨_, _, _, _, _, _, _, _, _, _, rfl, rfl, h⟩, IsPart.at [] [1, 2, 3, 6, 0] base0 (H.c (H.c (H.c (H.c (H.c .nil))))) (E.c (E.c (E.c (E.c (E.c (E.c (E.c (E.c .nil))))))))⟩
        ·
         have hb78 := hb
         try simp only [hS, hE, ne_eq] at hb
         first | rw [if_pos hb78] at h | rw [if_neg (Bool.eq_false_iff.1 hb78)] at h | rw [if_pos hb] at h | rw [if_neg hb] at h | (simp only [hb, hT, reduceIte] at h) | skip
         refine L.Gn hb78 ?_
         refine L.Gy hb77 (Y.pk (c := false) hb78) ?_
         refine L.Y (Y.pk (c := false) hb77) ?_
         refine L.Y Y.mv ?_
         refine L.Gc (fun hb => ?_) (fun hb => ?_)
         ·
          first | exact Bool.false_ne_true ((Eq.symm (by assumption)).trans hb) | exact Bool.false_ne_true (hb.symm.trans (by assumption)) | exact DD hb
         have hb86 := hb
         refine L.Gy hb86 Y.mv ?_
         refine L.Gy hb86 Y.mv ?_
         refine L.Gy hb86 (Y.bb Try.underlying4) ?_
         refine L.Y (Y.pk (c := false) hb86) ?_
         refine L.Y Y.mv ?_
         refine L.Gc (fun hb => ?_) (fun hb => ?_)
         ·
          have hb87 := hb
          try simp only [hS, hE, ne_eq] at hb
          first | rw [if_pos hb87] at h | rw [if_neg (Bool.eq_false_iff.1 hb87)] at h | rw [if_pos hb] at h | rw [if_neg hb] at h | (simp only [hb, hT, reduceIte] at h) | skip
          exfalso
          revert h
          exact fun h => by cases k <;> simp [laws_FnBiordersHaveScales.j0] at h
         ·
          have hb87 := hb
          try simp only [hS, hE, ne_eq] at hb
          first | rw [if_pos hb87] at h | rw [if_neg (Bool.eq_false_iff.1 hb87)] at h | rw [if_pos hb] at h | rw [if_neg hb] at h | (simp only [hb, hT, reduceIte] at h) | skip
          refine L.Gy hb87 Y.mv ?_
          refine L.Gs hb87 (S.ldN Try.underlying26 Y26) ?_
          replace h := Option.bind_eq_some_iff.1 h
          obtain ⟨t480, hc88, h⟩ := h
          refine L.GC hb87 (C.callE (l := true) [] Try.func24 (impl_IsTable.ac _ _ _ _ _ hc88) .nil ?_)
          refine L.Gy hb87 (Y.bb Try.underlying4) ?_
          refine L.Y (Y.pk (c := false) hb87) ?_
          refine L.Y Y.mv ?_
          refine L.Gc (fun hb => ?_) (fun hb => ?_)
          ·
           have hb89 := hb
           try simp only [hS, hE, ne_eq] at hb
           first | rw [if_pos hb89] at h | rw [if_neg (Bool.eq_false_iff.1 hb89)] at h | rw [if_pos hb] at h | rw [if_neg hb] at h | (simp only [hb, hT, reduceIte] at h) | skip
           exfalso
           revert h
           exact fun h => by cases k <;> simp [laws_FnBiordersHaveScales.j0] at h
          ·
           have hb89 := hb
           try simp only [hS, hE, ne_eq] at hb
           first | rw [if_pos hb89] at h | rw [if_neg (Bool.eq_false_iff.1 hb89)] at h | rw [if_pos hb] at h | rw [if_neg hb] at h | (simp only [hb, hT, reduceIte] at h) | skip
           refine L.Gy hb89 Y.mv ?_
           refine L.Gy hb89 Y.mv ?_
           refine L.Gc (fun hb => ?_) (fun hb => ?_)
           ·
            have hb90 := hb
            try simp only [hS, hE, ne_eq] at hb
            first | rw [if_pos hb90] at h | rw [if_neg (Bool.eq_false_iff.1 hb90)] at h | rw [if_pos hb] at h | rw [if_neg hb] at h | (simp only [hb, hT, reduceIte] at h) | skip
            refine L.Gy hb90 Y.mv ?_
            refine L.Gy hb90 Y.nt ?_
            refine L.Gy hb89 (Y.pk (c := true) hb90) ?_
            refine L.Gy hb89 Y.mv ?_
            refine L.Gc (fun hb => ?_) (fun hb => ?_)
            ·
             have hb91 := hb
             try simp only [hS, hE, ne_eq] at hb
             first | rw [if_pos hb91] at h | rw [if_neg (Bool.eq_false_iff.1 hb91)] at h | rw [if_pos hb] at h | rw [if_neg hb] at h | (simp only [hb, hT, reduceIte] at h) | skip
             refine L.Gy hb91 Y.mv ?_
             refine L.Gy hb91 Y.nt ?_
             refine L.Gy hb89 (Y.pk (c := true) hb91) ?_
             refine L.Y (Y.pk (c := false) hb89) ?_
             refine AList.nil ?_
             exact ⟨_, _, ⟨_, _, _, _, _, _, _, _, _, _, rfl, rfl, h⟩, IsPart.at [] [1, 2, 3, 6, 0] base0 (H.c (H.c (H.c (H.c (H.c .nil))))) (E.c (E.c (E.c (E.c (E.c (E.c (E.c (E.c .nil))))))))⟩
            ·
             have hb91 := hb
             try simp only [hS, hE, ne_eq] at hb
             first | rw [if_pos hb91] at h | rw [if_neg (Bool.eq_false_iff.1 hb91)] at h | rw [if_pos hb] at h | rw [if_neg hb] at h | (simp only [hb, hT, reduceIte] at h) | skip
             refine L.Gn hb91 ?_
             refine L.Gn hb91 ?_
             refine L.Gy hb89 (Y.pk (c := false) hb91) ?_
             refine L.Y (Y.pk (c := false) hb89) ?_
             refine AList.nil ?_
             exact ⟨_, _, ⟨_, _, _, _, _, _, _, _, _, _, rfl, rfl, h⟩, IsPart.at [] [1, 2, 3, 6, 0] base0 (H.c (H.c (H.c (H.c (H.c .nil))))) (E.c (E.c (E.c (E.c (E.c (E.c (E.c (E.c .nil))))))))⟩
           ·
            have hb90 := hb
            try simp only [hS, hE, ne_eq] at hb
            first | rw [if_pos hb90] at h | rw [if_neg (Bool.eq_false_iff.1 hb90)] at h | rw [if_pos hb] at h | rw [if_neg hb] at h | (simp only [hb, hT, reduceIte] at h) | skip
            refine L.Gn hb90 ?_
            refine L.Gn hb90 ?_
            refine L.Gy hb89 (Y.pk (c := false) hb90) ?_
            refine L.Gy hb89 Y.mv ?_
            refine L.Gc (fun hb => ?_) (fun hb => ?_)
            ·
             first | exact Bool.false_ne_true ((Eq.symm (by assumption)).trans hb) | exact Bool.false_ne_true (hb.symm.trans (by assumption)) | exact DD hb
            have hb92 := hb
            refine L.Gn hb92 ?_
            refine L.Gn hb92 ?_
            refine L.Gy hb89 (Y.pk (c := false) hb92) ?_
            refine L.Y (Y.pk (c := false) hb89) ?_
            refine AList.nil ?_
            exact ⟨_, _, ⟨_, _, _, _, _, _, _, _, _, _, rfl, rfl, h⟩, IsPart.at [] [1, 2, 3, 6, 0] base0 (H.c (H.c (H.c (H.c (H.c .nil))))) (E.c (E.c (E.c (E.c (E.c (E.c (E.c (E.c .nil))))))))⟩
  ·
   rintro e H ⟨k93, x6, x7, x8, x12, x13, x122, x452000, x452001, x452002, rfl, rfl, h⟩
   rcases k93 with _ | k93
   ·
    exact absurd h (by simp [laws_FnBiordersHaveScales.j0])
   simp only [laws_FnBiordersHaveScales.j0] at h
   refine W.cond (fun hb => ?_) (fun hb => ?_)
   ·
    have hb94 := hb
    try simp only [hS, hE, ne_eq] at hb
    first | rw [if_pos hb94] at h | rw [if_neg (Bool.eq_false_iff.1 hb94)] at h | rw [if_pos hb] at h | rw [if_neg hb] at h | (simp only [hb, hT, reduceIte] at h) | skip
    exfalso
    revert h
    exact fun h => by simp at h
   ·
    have hb94 := hb
    try simp only [hS, hE, ne_eq] at hb
    first | rw [if_pos hb94] at h | rw [if_neg (Bool.eq_false_iff.1 hb94)] at h | rw [if_pos hb] at h | rw [if_neg hb] at h | (simp only [hb, hT, reduceIte] at h) | skip
    refine AWp.skip ?_
    refine AWp.seq ?_
    refine AWp.seq ?_
    refine AWp.region ?_
    refine L.Y Y.mv ?_
    refine AList.nil ?_
    refine W.cond (fun hb => ?_) (fun hb => ?_)
    ·
     have hb100 := hb
     try simp only [hS, hE, ne_eq] at hb
     first | rw [if_pos hb100] at h | rw [if_neg (Bool.eq_false_iff.1 hb100)] at h | rw [if_pos hb] at h | rw [if_neg hb] at h | (simp only [hb, hT, reduceIte] at h) | skip
     refine AWp.seq ?_
     refine AWp.region ?_
     refine L.Y Y.mv ?_
     refine L.Y Y.mv ?_
     replace h := Option.bind_eq_some_iff.1 h
     obtain ⟨⟨t481, t482, t483, t486⟩, hc102, h⟩ := h
     dsimp only at h
     refine L.C (C.callE (l := true) [] Try.func25 (impl_TableOfScales.ac _ _ _ _ _ _ _ hc102) .nil ?_)
     refine L.Y Y.mv ?_
     refine L.Y Y.ex ?_
     refine L.Y Y.ex ?_
     refine L.M (M.al Y26) ?_
     refine L.S (S.stb Y26) ?_
     refine L.Y Y.asg ?_
     refine AList.nil ?_
     refine AWp.seq ?_
     refine W.kp [1, 5, 6, 7, 8, 12, 13, 18, 19, 122, 123] ?_
     refine AWp.region ?_
     refine L.Y Y.mv ?_
     refine L.Y Y.nt ?_
     refine L.Y Y.mv ?_
     refine L.Gc (fun hb => ?_) (fun hb => ?_)
     ·
      have hb105 := hb
      try simp only [hS, hE, ne_eq] at hb
      first | rw [if_pos hb105] at h | rw [if_neg (Bool.eq_false_iff.1 hb105)] at h | rw [if_pos hb] at h | rw [if_neg hb] at h | (simp only [hb, hT, reduceIte] at h) | skip
      exfalso
      revert h
      exact fun h => by simp at h
     ·
      have hb105 := hb
      try simp only [hS, hE, ne_eq] at hb
      first | rw [if_pos hb105] at h | rw [if_neg (Bool.eq_false_iff.1 hb105)] at h | rw [if_pos hb] at h | rw [if_neg hb] at h | (simp only [hb, hT, reduceIte] at h) | skip
      refine L.Gs hb105 (S.ldN Try.underlying26 Y26) ?_
      refine L.Gs hb105 (S.ldN Try.underlying26 Y26) ?_
      replace h := Option.bind_eq_some_iff.1 h
      obtain ⟨t488, hc106, h⟩ := h
      refine L.GC hb105 (C.callE (l := true) [] Try.func26 (laws_vTable.ac _ _ _ _ _ _ _ _ hc106) .nil ?_)
      refine L.Gy hb105 Y.nt ?_
      refine L.Y (Y.pk (c := false) hb105) ?_
      refine AList.nil ?_
      refine W.cond (fun hb => ?_) (fun hb => ?_)
      ·
       have hb107 := hb
       try simp only [hS, hE, ne_eq] at hb
       first | rw [if_pos hb107] at h | rw [if_neg (Bool.eq_false_iff.1 hb107)] at h | rw [if_pos hb] at h | rw [if_neg hb] at h | (simp only [hb, hT, reduceIte] at h) | skip
       exfalso
       revert h
       exact fun h => by simp at h
      ·
       have hb107 := hb
       try simp only [hS, hE, ne_eq] at hb
       first | rw [if_pos hb107] at h | rw [if_neg (Bool.eq_false_iff.1 hb107)] at h | rw [if_pos hb] at h | rw [if_neg hb] at h | (simp only [hb, hT, reduceIte] at h) | skip
       refine AWp.skip ?_
       refine AWp.cut (fun e H => ∃ (kk : Nat) (x452000 : Int) (x452001 : Int) (x452002 : List Int) (x900006000 : Int) (x900006001 : Int) (x900006002 : List Int), e = [(1, .row 1 l1.length false (ints .u8 l1)), (5, .ptr 0 0), (18, .ptr 1 0)] ∧ H = [.bx 26 [.lit (.int .i64 x452000), .lit (.int .i64 x452001), .own 2 x452002.length], .bx 26 [.lit (.int .i64 x900006000), .lit (.int .i64 x900006001), .own 3 x900006002.length], .sl 3 1 x452002.length false (ints .i64 x452002), .sl 3 1 x900006002.length false (ints .i64 x900006002)] ∧ laws_FnBiordersHaveScales.j2 kk l1 = some true) ?_ ?_
       ·
        skip
        refine AWp.seq ?_
        refine W.kp [1, 5, 6, 7, 8, 12, 13, 18, 19, 122, 123, 137] ?_
        refine AWp.region ?_
        refine L.Y Y.mv ?_
        refine AList.nil ?_
        rcases k93 with _ | k93
        ·
         exact absurd h (by simp [laws_FnBiordersHaveScales.j1])
        simp only [laws_FnBiordersHaveScales.j1] at h
        refine W.cond (fun hb => ?_) (fun hb => ?_)
        ·
         have hb117 := hb
         try simp only [hS, hE, ne_eq] at hb
         first | rw [if_pos hb117] at h | rw [if_neg (Bool.eq_false_iff.1 hb117)] at h | rw [if_pos hb] at h | rw [if_neg hb] at h | (simp only [hb, hT, reduceIte] at h) | skip
         repeat (first | (rw [iN] at h; obtain ⟨_, h⟩ := h) | (rw [iP] at h; obtain ⟨_, h⟩ := h) | (simp only [bS] at h))
         refine AWp.seq ?_
         refine AWp.region ?_
         refine L.Y (Y.fa (off := 1) Try.underlying26 Y3) ?_
         refine L.S (S.ld Try.underlying3) ?_
         refine L.Y Y.asg ?_
         refine AList.nil ?_
         refine AWp.seq ?_
         refine Dt.reg [] [] (.t 0 (.y 1 (.y 2 (.t 3 (.y 4 (.y 5 (.y 6 (.y 7 (.t 8 (.y 9 (.one 10 (.y 11 (.y 12 (.t 13 (.y 14 (.y 15 (.t 16 (.y 17 (.y 18 (.y 19 (.y 20 (.t 21 (.y 22 (.one 23 (.y 24 (.y 25 (.y 26 (.t 27 (.y 28 (.y 29 (.t 30 (.y 31 (.y 32 (.y 33 (.y 34 (.t 35 (.y 36 (.one 37 (.y 38 (.y 39 (.t 40 (.y 41 (.y 42 (.t 43 (.y 44 (.y 45 (.y 46 (.y 47 (.t 48 (.y 49 (.one 50 (.y 51 .done)))))))))))))))))))))))))))))))))))))))))))))))))))) HM ?_
         refine Dt.T rfl wantN (D.ldN Try.underlying26 Y26) ?_
         refine Dt.Y rfl wantN Y.mv ?_
         refine Dt.Y rfl wantN (Y.ixo Try.underlying22 Y3) ?_
         refine Dt.T rfl wantN (D.ld Try.underlying3) ?_
         refine Dt.Y rfl wantN Y.mv ?_
         refine Dt.Y rfl wantN Y.bin ?_
         refine Dt.Y rfl wantN Y.mv ?_
         refine Dt.Y rfl wantN (Y.ixo Try.underlying22 Y3) ?_
         refine Dt.T rfl wantN (D.ld Try.underlying3) ?_
         refine Dt.Y rfl wantN Y.bin ?_
         refine Dt.O (g' := false) rfl wantN ?_
         replace h := Option.bind_eq_some_iff.1 h
         obtain ⟨t491, hc125, h⟩ := h
         refine Ox.C true [] Try.func27 (laws_vMarked.ac _ _ _ _ _ hc125) .nil ?_
         refine Dt.Y rfl wantN Y.nt ?_
         refine Dt.Y rfl wantN Y.mv ?_
         refine Dt.F 153 (fun hb => ?_) (fun hb => ?_)
         ·
          have hb126 := hb
          try simp only [hS, hE, ne_eq] at hb
          first | rw [if_pos hb126] at h | rw [if_neg (Bool.eq_false_iff.1 hb126)] at h | rw [if_pos hb] at h | rw [if_neg hb] at h | (simp only [hb, hT, reduceIte] at h) | skip
          exfalso
          revert h
          exact fun h => by simp at h
         ·
          have hb126 := hb
          try simp only [hS, hE, ne_eq] at hb
          first | rw [if_pos hb126] at h | rw [if_neg (Bool.eq_false_iff.1 hb126)] at h | rw [if_pos hb] at h | rw [if_neg hb] at h | (simp only [hb, hT, reduceIte] at h) | skip
          repeat (first | (rw [iN] at h; obtain ⟨_, h⟩ := h) | (rw [iP] at h; obtain ⟨_, h⟩ := h) | (simp only [bS] at h))
          refine Dt.T rfl (wantY hb126) (D.ldN Try.underlying26 Y26) ?_
          refine Dt.Y rfl (wantY hb126) Y.mv ?_
          refine Dt.Y rfl (wantY hb126) (Y.ixo Try.underlying22 Y3) ?_
          refine Dt.T rfl (wantY hb126) (D.ld Try.underlying3) ?_
          refine Dt.Y rfl (wantY hb126) Y.mv ?_
          refine Dt.Y rfl (wantY hb126) Y.bin ?_
          refine Dt.Y rfl (wantY hb126) Y.mv ?_
          refine Dt.Y rfl (wantY hb126) (Y.ixo Try.underlying22 Y3) ?_
          refine Dt.T rfl (wantY hb126) (D.ld Try.underlying3) ?_
          refine Dt.Y rfl (wantY hb126) Y.bin ?_
          refine Dt.O (g' := false) rfl (wantY hb126) ?_
          replace h := Option.bind_eq_some_iff.1 h
          obtain ⟨t494, hc127, h⟩ := h
          refine Ox.C true [] Try.func27 (laws_vMarked.ac _ _ _ _ _ hc127) .nil ?_
          refine Dt.Y rfl (wantY hb126) Y.nt ?_
          refine Dt.Y rfl wantN (Y.pk (c := false) hb126) ?_
          refine Dt.Y rfl wantN Y.mv ?_
          refine Dt.F 167 (fun hb => ?_) (fun hb => ?_)
          ·
           have hb128 := hb
           try simp only [hS, hE, ne_eq] at hb
           first | rw [if_pos hb128] at h | rw [if_neg (Bool.eq_false_iff.1 hb128)] at h | rw [if_pos hb] at h | rw [if_neg hb] at h | (simp only [hb, hT, reduceIte] at h) | skip
           exfalso
           revert h
           exact fun h => by simp at h
          ·
           have hb128 := hb
           try simp only [hS, hE, ne_eq] at hb
           first | rw [if_pos hb128] at h | rw [if_neg (Bool.eq_false_iff.1 hb128)] at h | rw [if_pos hb] at h | rw [if_neg hb] at h | (simp only [hb, hT, reduceIte] at h) | skip
           refine Dt.T rfl (wantY hb128) (D.ldN Try.underlying26 Y26) ?_
           refine Dt.Y rfl (wantY hb128) Y.mv ?_
           refine Dt.Y rfl (wantY hb128) (Y.ixo Try.underlying22 Y3) ?_
           refine Dt.T rfl (wantY hb128) (D.ld Try.underlying3) ?_
           refine Dt.Y rfl (wantY hb128) Y.mv ?_
           refine Dt.Y rfl (wantY hb128) Y.bin ?_
           refine Dt.Y rfl (wantY hb128) Y.mv ?_
           refine Dt.Y rfl (wantY hb128) (Y.ixo Try.underlying22 Y3) ?_
           refine Dt.T rfl (wantY hb128) (D.ld Try.underlying3) ?_
           refine Dt.Y rfl (wantY hb128) Y.bin ?_
           refine Dt.O (g' := false) rfl (wantY hb128) ?_
           replace h := Option.bind_eq_some_iff.1 h
           obtain ⟨t497, hc129, h⟩ := h
           refine Ox.C true [] Try.func27 (laws_vMarked.ac _ _ _ _ _ hc129) .nil ?_
           refine Dt.Y rfl wantN (Y.pk (c := false) hb128) ?_
           refine Dt.Y rfl wantN Y.mv ?_
           refine Dt.F 180 (fun hb => ?_) (fun hb => ?_)
           ·
            have hb130 := hb
            try simp only [hS, hE, ne_eq] at hb
            first | rw [if_pos hb130] at h | rw [if_neg (Bool.eq_false_iff.1 hb130)] at h | rw [if_pos hb] at h | rw [if_neg hb] at h | (simp only [hb, hT, reduceIte] at h) | skip
            exfalso
            revert h
            exact fun h => by simp at h
           ·
            have hb130 := hb
            try simp only [hS, hE, ne_eq] at hb
            first | rw [if_pos hb130] at h | rw [if_neg (Bool.eq_false_iff.1 hb130)] at h | rw [if_pos hb] at h | rw [if_neg hb] at h | (simp only [hb, hT, reduceIte] at h) | skip
            refine Dt.T rfl (wantY hb130) (D.ldN Try.underlying26 Y26) ?_
            refine Dt.Y rfl (wantY hb130) Y.mv ?_
            refine Dt.Y rfl (wantY hb130) (Y.ixo Try.underlying22 Y3) ?_
            refine Dt.T rfl (wantY hb130) (D.ld Try.underlying3) ?_
            refine Dt.Y rfl (wantY hb130) Y.mv ?_
            refine Dt.Y rfl (wantY hb130) Y.bin ?_
            refine Dt.Y rfl (wantY hb130) Y.mv ?_
            refine Dt.Y rfl (wantY hb130) (Y.ixo Try.underlying22 Y3) ?_
            refine Dt.T rfl (wantY hb130) (D.ld Try.underlying3) ?_
            refine Dt.Y rfl (wantY hb130) Y.bin ?_
            refine Dt.O (g' := false) rfl (wantY hb130) ?_
            replace h := Option.bind_eq_some_iff.1 h
            obtain ⟨t500, hc131, h⟩ := h
            refine Ox.C true [] Try.func27 (laws_vMarked.ac _ _ _ _ _ hc131) .nil ?_
            refine Dt.Y rfl wantN (Y.pk (c := false) hb130) ?_
            refine Dt.nil ?_
            refine W.cond (fun hb => ?_) (fun hb => ?_)
            ·
             have hb132 := hb
             try simp only [hS, hE, ne_eq] at hb
             first | rw [if_pos hb132] at h | rw [if_neg (Bool.eq_false_iff.1 hb132)] at h | rw [if_pos hb] at h | rw [if_neg hb] at h | (simp only [hb, hT, reduceIte] at h) | skip
             exfalso
             revert h
             exact fun h => by simp at h
            ·
             have hb132 := hb
             try simp only [hS, hE, ne_eq] at hb
             first | rw [if_pos hb132] at h | rw [if_neg (Bool.eq_false_iff.1 hb132)] at h | rw [if_pos hb] at h | rw [if_neg hb] at h | (simp only [hb, hT, reduceIte] at h) | skip
             refine AWp.skip ?_
             exact ⟨_, _, ⟨_, _, _, _, _, _, _, rfl, rfl, h⟩, IsPart.at [] [0, 6, 4, 5] base0 (H.c (H.c (H.c (H.c .nil)))) (E.c (E.c (E.c .nil)))⟩
        ·
         have hb117 := hb
         try simp only [hS, hE, ne_eq] at hb
         first | rw [if_pos hb117] at h | rw [if_neg (Bool.eq_false_iff.1 hb117)] at h | rw [if_pos hb] at h | rw [if_neg hb] at h | (simp only [hb, hT, reduceIte] at h) | skip
         refine AWp.skip ?_
         exact ⟨_, _, ⟨_, _, _, _, _, _, _, rfl, rfl, h⟩, IsPart.at [] [0, 6, 4, 5] base0 (H.c (H.c (H.c (H.c .nil)))) (E.c (E.c (E.c .nil)))⟩
       ·
        rintro e H ⟨k133, x452000, x452001, x452002, x900006000, x900006001, x900006002, rfl, rfl, h⟩
        rcases k133 with _ | k133
        ·
         exact absurd h (by simp [laws_FnBiordersHaveScales.j2])
        simp only [laws_FnBiordersHaveScales.j2] at h
        refine AWp.seq ?_
        refine AWp.region ?_
        refine L.Y Y.mv ?_
        replace h := Option.bind_eq_some_iff.1 h
        obtain ⟨⟨t501, t502⟩, hc135, h⟩ := h
        dsimp only at h
        refine L.C (C.callE (l := true) [] Try.func28 (spec_DrawTableOfScales.ac _ _ _ _ hc135) .nil ?_)
        refine L.Y Y.mv ?_
        refine L.Y Y.ex ?_
        refine L.Y Y.ex ?_
        refine L.Y Y.asg ?_
        refine L.Y Y.asg ?_
        refine AList.nil ?_
        refine AWp.seq ?_
        refine W.kp [1, 5, 18, 21, 22] ?_
        refine AWp.region ?_
        refine L.Y Y.mv ?_
        refine L.Y Y.mv ?_
        replace h := Option.bind_eq_some_iff.1 h
        obtain ⟨⟨t507, t508, t509, t512⟩, hc137, h⟩ := h
        dsimp only at h
        refine L.C (C.callE (l := true) [] Try.func25 (impl_TableOfScales.ac _ _ _ _ _ _ _ hc137) .nil ?_)
        refine L.Y Y.mv ?_
        refine L.Y Y.ex ?_
        refine L.Y Y.ex ?_
        refine L.M (M.al Y26) ?_
        refine L.S (S.stb Y26) ?_
        refine L.Y Y.asg ?_
        refine AList.nil ?_
        refine AWp.seq ?_
        refine W.kp [1, 5, 18, 21, 22, 23, 24] ?_
        refine AWp.region ?_
        refine L.Y Y.mv ?_
        refine L.Y Y.mv ?_
        replace h := Option.bind_eq_some_iff.1 h
        obtain ⟨⟨t514, t515, t516, t519⟩, hc139, h⟩ := h
        dsimp only at h
        refine L.C (C.callE (l := true) [] Try.func29 (spec_TableOfScales.ac _ _ _ _ _ _ _ hc139) .nil ?_)
        refine L.Y Y.mv ?_
        refine L.Y Y.ex ?_
        refine L.Y Y.ex ?_
        refine L.M (M.al Y26) ?_
        refine L.S (S.stb Y26) ?_
        refine L.Y Y.asg ?_
        refine AList.nil ?_
        refine AWp.seq ?_
        refine AWp.seq ?_
        refine W.kp [1, 5, 18, 21, 22, 23, 24, 25, 26] ?_
        refine AWp.region ?_
        refine L.Y Y.mv ?_
        refine L.Y Y.mv ?_
        refine L.Y (Y.bb Try.underlying4) ?_
        refine L.Y Y.mv ?_
        refine L.Gc (fun hb => ?_) (fun hb => ?_)
        ·
         have hb145 := hb
         try simp only [hS, hE, ne_eq] at hb
         first | rw [if_pos hb145] at h | rw [if_neg (Bool.eq_false_iff.1 hb145)] at h | rw [if_pos hb] at h | rw [if_neg hb] at h | (simp only [hb, hT, reduceIte] at h) | skip
         exfalso
         revert h
         exact fun h => by cases k133 <;> simp [laws_FnBiordersHaveScales.j3] at h
        ·
         have hb145 := hb
         try simp only [hS, hE, ne_eq] at hb
         first | rw [if_pos hb145] at h | rw [if_neg (Bool.eq_false_iff.1 hb145)] at h | rw [if_pos hb] at h | rw [if_neg hb] at h | (simp only [hb, hT, reduceIte] at h) | skip
         refine L.Gs hb145 (S.ldN Try.underlying26 Y26) ?_
         refine L.Gs hb145 (S.ldN Try.underlying26 Y26) ?_
         replace h := Option.bind_eq_some_iff.1 h
         obtain ⟨t521, hc146, h⟩ := h
         refine L.GC hb145 (C.callE (l := true) [] Try.func26 (laws_vTable.ac _ _ _ _ _ _ _ _ hc146) .nil ?_)
         refine L.Gy hb145 Y.nt ?_
         refine L.Y (Y.pk (c := false) hb145) ?_
         refine AList.nil ?_
         rcases k133 with _ | k133
         ·
          exact absurd h (by simp [laws_FnBiordersHaveScales.j3])
         simp only [laws_FnBiordersHaveScales.j3] at h
         refine W.cond (fun hb => ?_) (fun hb => ?_)
         ·
          have hb147 := hb
          try simp only [hS, hE, ne_eq] at hb
          first | rw [if_pos hb147] at h | rw [if_neg (Bool.eq_false_iff.1 hb147)] at h | rw [if_pos hb] at h | rw [if_neg hb] at h | (simp only [hb, hT, reduceIte] at h) | skip
          exfalso
          revert h
          exact fun h => by simp at h
         ·
          have hb147 := hb
          try simp only [hS, hE, ne_eq] at hb
          first | rw [if_pos hb147] at h | rw [if_neg (Bool.eq_false_iff.1 hb147)] at h | rw [if_pos hb] at h | rw [if_neg hb] at h | (simp only [hb, hT, reduceIte] at h) | skip
          refine AWp.skip ?_
          refine AWp.seq ?_
          refine AWp.seq ?_
          refine W.kp [1, 5, 18, 21, 22, 23, 24, 25, 26, 218] ?_
          refine AWp.region ?_
          refine L.Y Y.mv ?_
          refine AList.nil ?_
          refine W.cond (fun hb => ?_) (fun hb => ?_)
          ·
           have hb161 := hb
           try simp only [hS, hE, ne_eq] at hb
           first | rw [if_pos hb161] at h | rw [if_neg (Bool.eq_false_iff.1 hb161)] at h | rw [if_pos hb] at h | rw [if_neg hb] at h | (simp only [hb, hT, reduceIte] at h) | skip
           refine AWp.seq ?_
           refine AWp.region ?_
           refine L.S (S.ldN Try.underlying26 Y26) ?_
           replace h := Option.bind_eq_some_iff.1 h
           obtain ⟨⟨t522, t523⟩, hc163, h⟩ := h
           dsimp only at h
           refine L.C (C.callE (l := true) [] Try.func22 (impl_IsBiorder.ac _ _ _ _ _ _ hc163) .nil ?_)
           refine L.Y Y.mv ?_
           refine L.Y Y.ex ?_
           refine L.Y Y.ex ?_
           refine L.Y Y.asg ?_
           refine L.Y Y.asg ?_
           refine AList.nil ?_
           refine AWp.seq ?_
           refine W.kp [1, 5, 18, 21, 22, 23, 24, 25, 26, 27, 28, 218, 219] ?_
           refine AWp.region ?_
           refine L.S (S.ldN Try.underlying26 Y26) ?_
           replace h := Option.bind_eq_some_iff.1 h
           obtain ⟨⟨t524, t525, t526, t529⟩, hc165, h⟩ := h
           dsimp only at h
           refine L.C (C.callE (l := true) [] Try.func30 (impl_MirrorTable.ac _ _ _ _ _ _ _ _ hc165) .nil ?_)
           refine L.Y Y.mv ?_
           refine L.Y Y.ex ?_
           refine L.Y Y.ex ?_
           refine L.M (M.al Y26) ?_
           refine L.S (S.stb Y26) ?_
           refine L.Y Y.asg ?_
           refine AList.nil ?_
           refine AWp.seq ?_
           refine W.kp [1, 5, 18, 21, 22, 23, 24, 25, 26, 27, 28, 29, 30, 218, 219] ?_
           refine AWp.region ?_
           refine L.S (S.ldN Try.underlying26 Y26) ?_
           replace h := Option.bind_eq_some_iff.1 h
           obtain ⟨⟨t531, t532⟩, hc167, h⟩ := h
           dsimp only at h
           refine L.C (C.callE (l := true) [] Try.func22 (impl_IsBiorder.ac _ _ _ _ _ _ hc167) .nil ?_)
           refine L.Y Y.mv ?_
           refine L.Y Y.ex ?_
           refine L.Y Y.ex ?_
           refine L.Y Y.asg ?_
           refine L.Y Y.asg ?_
           refine AList.nil ?_
           refine AWp.seq ?_
           refine W.kp [1, 5, 18, 21, 22, 23, 24, 25, 26, 27, 28, 29, 30, 31, 32, 218, 219] ?_
           refine AWp.region ?_
           refine L.S (S.ldN Try.underlying26 Y26) ?_
           replace h := Option.bind_eq_some_iff.1 h
           obtain ⟨⟨t533, t534, t535, t538⟩, hc169, h⟩ := h
           dsimp only at h
           refine L.C (C.callE (l := true) [] Try.func31 (impl_OppositeTable.ac _ _ _ _ _ _ _ _ hc169) .nil ?_)
           refine L.Y Y.mv ?_
           refine L.Y Y.ex ?_
           refine L.Y Y.ex ?_
           refine L.M (M.al Y26) ?_
           refine L.S (S.stb Y26) ?_
           refine L.Y Y.asg ?_
           refine AList.nil ?_
           refine AWp.seq ?_
           refine W.kp [1, 5, 18, 21, 22, 23, 24, 25, 26, 27, 28, 29, 30, 31, 32, 33, 34, 218, 219] ?_
           refine AWp.region ?_
           refine L.S (S.ldN Try.underlying26 Y26) ?_
           replace h := Option.bind_eq_some_iff.1 h
           obtain ⟨⟨t540, t541⟩, hc171, h⟩ := h
           dsimp only at h
           refine L.C (C.callE (l := true) [] Try.func22 (impl_IsBiorder.ac _ _ _ _ _ _ hc171) .nil ?_)
           refine L.Y Y.mv ?_
           refine L.Y Y.ex ?_
           refine L.Y Y.ex ?_
           refine L.Y Y.asg ?_
           refine L.Y Y.asg ?_
           refine AList.nil ?_
           refine AWp.seq ?_
           refine W.kp [1, 5, 18, 21, 22, 23, 24, 25, 26, 27, 28, 29, 30, 31, 32, 33, 34, 35, 36, 218, 219] ?_
           refine AWp.region ?_
           refine L.Y Y.mv ?_
           refine L.Y Y.mv ?_
           refine L.Gc (fun hb => ?_) (fun hb => ?_)
           ·
            have hb179 := hb
            try simp only [hS, hE, ne_eq] at hb
            first | rw [if_pos hb179] at h | rw [if_neg (Bool.eq_false_iff.1 hb179)] at h | rw [if_pos hb] at h | rw [if_neg hb] at h | (simp only [hb, hT, reduceIte] at h) | skip
            refine L.Gy hb179 Y.mv ?_
            refine L.Y (Y.pk (c := true) hb179) ?_
            refine L.Y Y.mv ?_
            refine L.Gc (fun hb => ?_) (fun hb => ?_)
            ·
             have hb180 := hb
             try simp only [hS, hE, ne_eq] at hb
             first | rw [if_pos hb180] at h | rw [if_neg (Bool.eq_false_iff.1 hb180)] at h | rw [if_pos hb] at h | rw [if_neg hb] at h | (simp only [hb, hT, reduceIte] at h) | skip
             refine L.Gy hb180 Y.mv ?_
             refine L.Y (Y.pk (c := true) hb180) ?_
             refine L.Y Y.mv ?_
             refine L.Gc (fun hb => ?_) (fun hb => ?_)
             ·
              have hb181 := hb
              try simp only [hS, hE, ne_eq] at hb
              first | rw [if_pos hb181] at h | rw [if_neg (Bool.eq_false_iff.1 hb181)] at h | rw [if_pos hb] at h | rw [if_neg hb] at h | (simp only [hb, hT, reduceIte] at h) | skip
              refine L.Gy hb181 Y.mv ?_
              refine L.Y (Y.pk (c := true) hb181) ?_
              refine L.Y Y.mv ?_
              refine L.Gc (fun hb => ?_) (fun hb => ?_)
              ·
               have hb182 := hb
               try simp only [hS, hE, ne_eq] at hb
               first | rw [if_pos hb182] at h | rw [if_neg (Bool.eq_false_iff.1 hb182)] at h | rw [if_pos hb] at h | rw [if_neg hb] at h | (simp only [hb, hT, reduceIte] at h) | skip
               refine L.Gy hb182 Y.mv ?_
               refine L.Y (Y.pk (c := true) hb182) ?_
               refine L.Y Y.mv ?_
               refine L.Gc (fun hb => ?_) (fun hb => ?_)
               ·
                have hb183 := hb
                try simp only [hS, hE, ne_eq] at hb
                first | rw [if_pos hb183] at h | rw [if_neg (Bool.eq_false_iff.1 hb183)] at h | rw [if_pos hb] at h | rw [if_neg hb] at h | (simp only [hb, hT, reduceIte] at h) | skip
                refine L.Gy hb183 Y.mv ?_
                refine L.Y (Y.pk (c := true) hb183) ?_
                refine L.Y Y.mv ?_
                refine L.Gc (fun hb => ?_) (fun hb => ?_)
                ·
                 have hb184 := hb
                 try simp only [hS, hE, ne_eq] at hb
                 first | rw [if_pos hb184] at h | rw [if_neg (Bool.eq_false_iff.1 hb184)] at h | rw [if_pos hb] at h | rw [if_neg hb] at h | (simp only [hb, hT, reduceIte] at h) | skip
                 refine L.Gy hb184 Y.mv ?_
                 refine L.Y (Y.pk (c := true) hb184) ?_
                 refine L.Y Y.mv ?_
                 refine L.Gc (fun hb => ?_) (fun hb => ?_)
                 ·
                  have hb185 := hb
                  try simp only [hS, hE, ne_eq] at hb
                  first | rw [if_pos hb185] at h | rw [if_neg (Bool.eq_false_iff.1 hb185)] at h | rw [if_pos hb] at h | rw [if_neg hb] at h | (simp only [hb, hT, reduceIte] at h) | skip
                  refine L.Gy hb185 Y.mv ?_
                  refine L.Y (Y.pk (c := true) hb185) ?_
                  refine L.Y Y.asg ?_
                  refine AList.nil ?_
                  refine AWp.ret ?_
                  first | (exfalso; cases h; done) | exact ⟨.inr rfl, [(4, _)], _, ⟨rfl, rfl⟩, IsPart.at [] [] base0 .nil (E.c .nil (hs := Sub.litE (LV h)))⟩
                 ·
                  have hb185 := hb
                  try simp only [hS, hE, ne_eq] at hb
                  first | rw [if_pos hb185] at h | rw [if_neg (Bool.eq_false_iff.1 hb185)] at h | rw [if_pos hb] at h | rw [if_neg hb] at h | (simp only [hb, hT, reduceIte] at h) | skip
                  exfalso
                  revert h
                  exact fun h => by simp at h
                ·
                 have hb184 := hb
                 try simp only [hS, hE, ne_eq] at hb
                 first | rw [if_pos hb184] at h | rw [if_neg (Bool.eq_false_iff.1 hb184)] at h | rw [if_pos hb] at h | rw [if_neg hb] at h | (simp only [hb, hT, reduceIte] at h) | skip
                 exfalso
                 revert h
                 exact fun h => by simp at h
               ·
                have hb183 := hb
                try simp only [hS, hE, ne_eq] at hb
                first | rw [if_pos hb183] at h | rw [if_neg (Bool.eq_false_iff.1 hb183)] at h | rw [if_pos hb] at h | rw [if_neg hb] at h | (simp only [hb, hT, reduceIte] at h) | skip
                exfalso
                revert h
                exact fun h => by simp at h
              ·
               have hb182 := hb
               try simp only [hS, hE, ne_eq] at hb
               first | rw [if_pos hb182] at h | rw [if_neg (Bool.eq_false_iff.1 hb182)] at h | rw [if_pos hb] at h | rw [if_neg hb] at h | (simp only [hb, hT, reduceIte] at h) | skip
               exfalso
               revert h
               exact fun h => by simp at h
             ·
              have hb181 := hb
              try simp only [hS, hE, ne_eq] at hb
              first | rw [if_pos hb181] at h | rw [if_neg (Bool.eq_false_iff.1 hb181)] at h | rw [if_pos hb] at h | rw [if_neg hb] at h | (simp only [hb, hT, reduceIte] at h) | skip
              exfalso
              revert h
              exact fun h => by simp at h
            ·
             have hb180 := hb
             try simp only [hS, hE, ne_eq] at hb
             first | rw [if_pos hb180] at h | rw [if_neg (Bool.eq_false_iff.1 hb180)] at h | rw [if_pos hb] at h | rw [if_neg hb] at h | (simp only [hb, hT, reduceIte] at h) | skip
             exfalso
             revert h
             exact fun h => by simp at h
           ·
            have hb179 := hb
            try simp only [hS, hE, ne_eq] at hb
            first | rw [if_pos hb179] at h | rw [if_neg (Bool.eq_false_iff.1 hb179)] at h | rw [if_pos hb] at h | rw [if_neg hb] at h | (simp only [hb, hT, reduceIte] at h) | skip
            exfalso
            revert h
            exact fun h => by simp at h
          ·
           have hb161 := hb
           try simp only [hS, hE, ne_eq] at hb
           first | rw [if_pos hb161] at h | rw [if_neg (Bool.eq_false_iff.1 hb161)] at h | rw [if_pos hb] at h | rw [if_neg hb] at h | (simp only [hb, hT, reduceIte] at h) | skip
           refine AWp.skip ?_
           refine AWp.seq ?_
           refine AWp.region ?_
           refine L.Y Y.asg ?_
           refine AList.nil ?_
           refine AWp.ret ?_
           first | (exfalso; cases h; done) | exact ⟨.inr rfl, [(4, _)], _, ⟨rfl, rfl⟩, IsPart.at [] [] base0 .nil (E.c .nil (hs := Sub.litE (LV h)))⟩
    ·
     have hb100 := hb
     try simp only [hS, hE, ne_eq] at hb
     first | rw [if_pos hb100] at h | rw [if_neg (Bool.eq_false_iff.1 hb100)] at h | rw [if_pos hb] at h | rw [if_neg hb] at h | (simp only [hb, hT, reduceIte] at h) | skip
     refine AWp.skip ?_
     refine AWp.cut (fun e H => ∃ (kk : Nat) (x452000 : Int) (x452001 : Int) (x452002 : List Int), e = [(1, .row 1 l1.length false (ints .u8 l1)), (5, .ptr 0 0)] ∧ H = [.bx 26 [.lit (.int .i64 x452000), .lit (.int .i64 x452001), .own 1 x452002.length], .sl 3 1 x452002.length false (ints .i64 x452002)] ∧ laws_FnBiordersHaveScales.j2 kk l1 = some true) ?_ ?_
     ·
      skip
      refine AWp.seq ?_
      refine AWp.region ?_
      refine L.Y Y.mv ?_
      refine AList.nil ?_
      rcases k93 with _ | k93
      ·
       exact absurd h (by simp [laws_FnBiordersHaveScales.j1])
      simp only [laws_FnBiordersHaveScales.j1] at h
      refine W.cond (fun hb => ?_) (fun hb => ?_)
      ·
       have hb195 := hb
       try simp only [hS, hE, ne_eq] at hb
       first | rw [if_pos hb195] at h | rw [if_neg (Bool.eq_false_iff.1 hb195)] at h | rw [if_pos hb] at h | rw [if_neg hb] at h | (simp only [hb, hT, reduceIte] at h) | skip
       repeat (first | (rw [iN] at h; obtain ⟨_, h⟩ := h) | (rw [iP] at h; obtain ⟨_, h⟩ := h) | (simp only [bS] at h))
       refine AWp.seq ?_
       refine AWp.region ?_
       refine L.Y (Y.fa (off := 1) Try.underlying26 Y3) ?_
       refine L.S (S.ld Try.underlying3) ?_
       refine L.Y Y.asg ?_
       refine AList.nil ?_
       refine AWp.seq ?_
       refine Dt.reg [] [] (.t 0 (.y 1 (.y 2 (.t 3 (.y 4 (.y 5 (.y 6 (.y 7 (.t 8 (.y 9 (.one 10 (.y 11 (.y 12 (.t 13 (.y 14 (.y 15 (.t 16 (.y 17 (.y 18 (.y 19 (.y 20 (.t 21 (.y 22 (.one 23 (.y 24 (.y 25 (.y 26 (.t 27 (.y 28 (.y 29 (.t 30 (.y 31 (.y 32 (.y 33 (.y 34 (.t 35 (.y 36 (.one 37 (.y 38 (.y 39 (.t 40 (.y 41 (.y 42 (.t 43 (.y 44 (.y 45 (.y 46 (.y 47 (.t 48 (.y 49 (.one 50 (.y 51 .done)))))))))))))))))))))))))))))))))))))))))))))))))))) HM ?_
       refine Dt.T rfl wantN (D.ldN Try.underlying26 Y26) ?_
       refine Dt.Y rfl wantN Y.mv ?_
       refine Dt.Y rfl wantN (Y.ixo Try.underlying22 Y3) ?_
       refine Dt.T rfl wantN (D.ld Try.underlying3) ?_
       refine Dt.Y rfl wantN Y.mv ?_
       refine Dt.Y rfl wantN Y.bin ?_
       refine Dt.Y rfl wantN Y.mv ?_
       refine Dt.Y rfl wantN (Y.ixo Try.underlying22 Y3) ?_
       refine Dt.T rfl wantN (D.ld Try.underlying3) ?_
       refine Dt.Y rfl wantN Y.bin ?_
       refine Dt.O (g' := false) rfl wantN ?_
       replace h := Option.bind_eq_some_iff.1 h
       obtain ⟨t491, hc203, h⟩ := h
       refine Ox.C true [] Try.func27 (laws_vMarked.ac _ _ _ _ _ hc203) .nil ?_
       refine Dt.Y rfl wantN Y.nt ?_
       refine Dt.Y rfl wantN Y.mv ?_
       refine Dt.F 153 (fun hb => ?_) (fun hb => ?_)
       ·
        have hb204 := hb
        try simp only [hS, hE, ne_eq] at hb
        first | rw [if_pos hb204] at h | rw [if_neg (Bool.eq_false_iff.1 hb204)] at h | rw [if_pos hb] at h | rw [if_neg hb] at h | (simp only [hb, hT, reduceIte] at h) | skip
        exfalso
        revert h
        exact fun h => by simp at h
       ·
        have hb204 := hb
        try simp only [hS, hE, ne_eq] at hb
        first | rw [if_pos hb204] at h | rw [if_neg (Bool.eq_false_iff.1 hb204)] at h | rw [if_pos hb] at h | rw [if_neg hb] at h | (simp only [hb, hT, reduceIte] at h) | skip
        repeat (first | (rw [iN] at h; obtain ⟨_, h⟩ := h) | (rw [iP] at h; obtain ⟨_, h⟩ := h) | (simp only [bS] at h))
        refine Dt.T rfl (wantY hb204) (D.ldN Try.underlying26 Y26) ?_
        refine Dt.Y rfl (wantY hb204) Y.mv ?_
        refine Dt.Y rfl (wantY hb204) (Y.ixo Try.underlying22 Y3) ?_
        refine Dt.T rfl (wantY hb204) (D.ld Try.underlying3) ?_
        refine Dt.Y rfl (wantY hb204) Y.mv ?_
        refine Dt.Y rfl (wantY hb204) Y.bin ?_
        refine Dt.Y rfl (wantY hb204) Y.mv ?_
        refine Dt.Y rfl (wantY hb204) (Y.ixo Try.underlying22 Y3) ?_
        refine Dt.T rfl (wantY hb204) (D.ld Try.underlying3) ?_
        refine Dt.Y rfl (wantY hb204) Y.bin ?_
        refine Dt.O (g' := false) rfl (wantY hb204) ?_
        replace h := Option.bind_eq_some_iff.1 h
        obtain ⟨t494, hc205, h⟩ := h
        refine Ox.C true [] Try.func27 (laws_vMarked.ac _ _ _ _ _ hc205) .nil ?_
        refine Dt.Y rfl (wantY hb204) Y.nt ?_
        refine Dt.Y rfl wantN (Y.pk (c := false) hb204) ?_
        refine Dt.Y rfl wantN Y.mv ?_
        refine Dt.F 167 (fun hb => ?_) (fun hb => ?_)
        ·
         have hb206 := hb
         try simp only [hS, hE, ne_eq] at hb
         first | rw [if_pos hb206] at h | rw [if_neg (Bool.eq_false_iff.1 hb206)] at h | rw [if_pos hb] at h | rw [if_neg hb] at h | (simp only [hb, hT, reduceIte] at h) | skip
         exfalso
         revert h
         exact fun h => by simp at h
        ·
         have hb206 := hb
         try simp only [hS, hE, ne_eq] at hb
         first | rw [if_pos hb206] at h | rw [if_neg (Bool.eq_false_iff.1 hb206)] at h | rw [if_pos hb] at h | rw [if_neg hb] at h | (simp only [hb, hT, reduceIte] at h) | skip
         refine Dt.T rfl (wantY hb206) (D.ldN Try.underlying26 Y26) ?_
         refine Dt.Y rfl (wantY hb206) Y.mv ?_
         refine Dt.Y rfl (wantY hb206) (Y.ixo Try.underlying22 Y3) ?_
         refine Dt.T rfl (wantY hb206) (D.ld Try.underlying3) ?_
         refine Dt.Y rfl (wantY hb206) Y.mv ?_
         refine Dt.Y rfl (wantY hb206) Y.bin ?_
         refine Dt.Y rfl (wantY hb206) Y.mv ?_
         refine Dt.Y rfl (wantY hb206) (Y.ixo Try.underlying22 Y3) ?_
         refine Dt.T rfl (wantY hb206) (D.ld Try.underlying3) ?_
         refine Dt.Y rfl (wantY hb206) Y.bin ?_
         refine Dt.O (g' := false) rfl (wantY hb206) ?_
         replace h := Option.bind_eq_some_iff.1 h
         obtain ⟨t497, hc207, h⟩ := h
         refine Ox.C true [] Try.func27 (laws_vMarked.ac _ _ _ _ _ hc207) .nil ?_
         refine Dt.Y rfl wantN (Y.pk (c := false) hb206) ?_
         refine Dt.Y rfl wantN Y.mv ?_
         refine Dt.F 180 (fun hb => ?_) (fun hb => ?_)
         ·
          have hb208 := hb
          try simp only [hS, hE, ne_eq] at hb
          first | rw [if_pos hb208] at h | rw [if_neg (Bool.eq_false_iff.1 hb208)] at h | rw [if_pos hb] at h | rw [if_neg hb] at h | (simp only [hb, hT, reduceIte] at h) | skip
          exfalso
          revert h
          exact fun h => by simp at h
         ·
          have hb208 := hb
          try simp only [hS, hE, ne_eq] at hb
          first | rw [if_pos hb208] at h | rw [if_neg (Bool.eq_false_iff.1 hb208)] at h | rw [if_pos hb] at h | rw [if_neg hb] at h | (simp only [hb, hT, reduceIte] at h) | skip
          refine Dt.T rfl (wantY hb208) (D.ldN Try.underlying26 Y26) ?_
          refine Dt.Y rfl (wantY hb208) Y.mv ?_
          refine Dt.Y rfl (wantY hb208) (Y.ixo Try.underlying22 Y3) ?_
          refine Dt.T rfl (wantY hb208) (D.ld Try.underlying3) ?_
          refine Dt.Y rfl (wantY hb208) Y.mv ?_
          refine Dt.Y rfl (wantY hb208) Y.bin ?_
          refine Dt.Y rfl (wantY hb208) Y.mv ?_
          refine Dt.Y rfl (wantY hb208) (Y.ixo Try.underlying22 Y3) ?_
          refine Dt.T rfl (wantY hb208) (D.ld Try.underlying3) ?_
          refine Dt.Y rfl (wantY hb208) Y.bin ?_
          refine Dt.O (g' := false) rfl (wantY hb208) ?_
          replace h := Option.bind_eq_some_iff.1 h
          obtain ⟨t500, hc209, h⟩ := h
          refine Ox.C true [] Try.func27 (laws_vMarked.ac _ _ _ _ _ hc209) .nil ?_
          refine Dt.Y rfl wantN (Y.pk (c := false) hb208) ?_
          refine Dt.nil ?_
          refine W.cond (fun hb => ?_) (fun hb => ?_)
          ·
           have hb210 := hb
           try simp only [hS, hE, ne_eq] at hb
           first | rw [if_pos hb210] at h | rw [if_neg (Bool.eq_false_iff.1 hb210)] at h | rw [if_pos hb] at h | rw [if_neg hb] at h | (simp only [hb, hT, reduceIte] at h) | skip
           exfalso
           revert h
           exact fun h => by simp at h
          ·
           have hb210 := hb
           try simp only [hS, hE, ne_eq] at hb
           first | rw [if_pos hb210] at h | rw [if_neg (Bool.eq_false_iff.1 hb210)] at h | rw [if_pos hb] at h | rw [if_neg hb] at h | (simp only [hb, hT, reduceIte] at h) | skip
           refine AWp.skip ?_
           exact ⟨_, _, ⟨_, _, _, _, rfl, rfl, h⟩, IsPart.at [] [0, 4] base0 (H.c (H.c .nil)) (E.c (E.c .nil))⟩
      ·
       have hb195 := hb
       try simp only [hS, hE, ne_eq] at hb
       first | rw [if_pos hb195] at h | rw [if_neg (Bool.eq_false_iff.1 hb195)] at h | rw [if_pos hb] at h | rw [if_neg hb] at h | (simp only [hb, hT, reduceIte] at h) | skip
       refine AWp.skip ?_
       exact ⟨_, _, ⟨_, _, _, _, rfl, rfl, h⟩, IsPart.at [] [0, 4] base0 (H.c (H.c .nil)) (E.c (E.c .nil))⟩
     ·
      rintro e H ⟨k211, x452000, x452001, x452002, rfl, rfl, h⟩
      rcases k211 with _ | k211
      ·
       exact absurd h (by simp [laws_FnBiordersHaveScales.j2])
      simp only [laws_FnBiordersHaveScales.j2] at h
      refine AWp.seq ?_
      refine AWp.region ?_
      refine L.Y Y.mv ?_
      replace h := Option.bind_eq_some_iff.1 h
      obtain ⟨⟨t501, t502⟩, hc213, h⟩ := h
      dsimp only at h
      refine L.C (C.callE (l := true) [] Try.func28 (spec_DrawTableOfScales.ac _ _ _ _ hc213) .nil ?_)
      refine L.Y Y.mv ?_
      refine L.Y Y.ex ?_
      refine L.Y Y.ex ?_
      refine L.Y Y.asg ?_
      refine L.Y Y.asg ?_
      refine AList.nil ?_
      refine AWp.seq ?_
      refine W.kp [1, 5, 21, 22] ?_
      refine AWp.region ?_
      refine L.Y Y.mv ?_
      refine L.Y Y.mv ?_
      replace h := Option.bind_eq_some_iff.1 h
      obtain ⟨⟨t507, t508, t509, t512⟩, hc215, h⟩ := h
      dsimp only at h
      refine L.C (C.callE (l := true) [] Try.func25 (impl_TableOfScales.ac _ _ _ _ _ _ _ hc215) .nil ?_)
      refine L.Y Y.mv ?_
      refine L.Y Y.ex ?_
      refine L.Y Y.ex ?_
      refine L.M (M.al Y26) ?_
      refine L.S (S.stb Y26) ?_
      refine L.Y Y.asg ?_
      refine AList.nil ?_
      refine AWp.seq ?_
      refine W.kp [1, 5, 21, 22, 23, 24] ?_
      refine AWp.region ?_
      refine L.Y Y.mv ?_
      refine L.Y Y.mv ?_
      replace h := Option.bind_eq_some_iff.1 h
      obtain ⟨⟨t514, t515, t516, t519⟩, hc217, h⟩ := h
      dsimp only at h
      refine L.C (C.callE (l := true) [] Try.func29 (spec_TableOfScales.ac _ _ _ _ _ _ _ hc217) .nil ?_)
      refine L.Y Y.mv ?_
      refine L.Y Y.ex ?_
      refine L.Y Y.ex ?_
      refine L.M (M.al Y26) ?_
      refine L.S (S.stb Y26) ?_
      refine L.Y Y.asg ?_
      refine AList.nil ?_
      refine AWp.seq ?_
      refine AWp.seq ?_
      refine W.kp [1, 5, 21, 22, 23, 24, 25, 26] ?_
      refine AWp.region ?_
      refine L.Y Y.mv ?_
      refine L.Y Y.mv ?_
      refine L.Y (Y.bb Try.underlying4) ?_
      refine L.Y Y.mv ?_
      refine L.Gc (fun hb => ?_) (fun hb => ?_)
      ·
       have hb223 := hb
       try simp only [hS, hE, ne_eq] at hb
       first | rw [if_pos hb223] at h | rw [if_neg (Bool.eq_false_iff.1 hb223)] at h | rw [if_pos hb] at h | rw [if_neg hb] at h | (simp only [hb, hT, reduceIte] at h) | skip
       exfalso
       revert h
       exact fun h => by cases k211 <;> simp [laws_FnBiordersHaveScales.j3] at h
      ·
       have hb223 := hb
       try simp only [hS, hE, ne_eq] at hb
       first | rw [if_pos hb223] at h | rw [if_neg (Bool.eq_false_iff.1 hb223)] at h | rw [if_pos hb] at h | rw [if_neg hb] at h | (simp only [hb, hT, reduceIte] at h) | skip
       refine L.Gs hb223 (S.ldN Try.underlying26 Y26) ?_
       refine L.Gs hb223 (S.ldN Try.underlying26 Y26) ?_
       replace h := Option.bind_eq_some_iff.1 h
       obtain ⟨t521, hc224, h⟩ := h
       refine L.GC hb223 (C.callE (l := true) [] Try.func26 (laws_vTable.ac _ _ _ _ _ _ _ _ hc224) .nil ?_)
       refine L.Gy hb223 Y.nt ?_
       refine L.Y (Y.pk (c := false) hb223) ?_
       refine AList.nil ?_
       rcases k211 with _ | k211
       ·
        exact absurd h (by simp [laws_FnBiordersHaveScales.j3])
       simp only [laws_FnBiordersHaveScales.j3] at h
       refine W.cond (fun hb => ?_) (fun hb => ?_)
       ·
        have hb225 := hb
        try simp only [hS, hE, ne_eq] at hb
        first | rw [if_pos hb225] at h | rw [if_neg (Bool.eq_false_iff.1 hb225)] at h | rw [if_pos hb] at h | rw [if_neg hb] at h | (simp only [hb, hT, reduceIte] at h) | skip
        exfalso
        revert h
        exact fun h => by simp at h
       ·
        have hb225 := hb
        try simp only [hS, hE, ne_eq] at hb
        first | rw [if_pos hb225] at h | rw [if_neg (Bool.eq_false_iff.1 hb225)] at h | rw [if_pos hb] at h | rw [if_neg hb] at h | (simp only [hb, hT, reduceIte] at h) | skip
        refine AWp.skip ?_
        refine AWp.seq ?_
        refine AWp.seq ?_
        refine W.kp [1, 5, 21, 22, 23, 24, 25, 26, 218] ?_
        refine AWp.region ?_
        refine L.Y Y.mv ?_
        refine AList.nil ?_
        refine W.cond (fun hb => ?_) (fun hb => ?_)
        ·
         have hb239 := hb
         try simp only [hS, hE, ne_eq] at hb
         first | rw [if_pos hb239] at h | rw [if_neg (Bool.eq_false_iff.1 hb239)] at h | rw [if_pos hb] at h | rw [if_neg hb] at h | (simp only [hb, hT, reduceIte] at h) | skip
         refine AWp.seq ?_
         refine AWp.region ?_
         refine L.S (S.ldN Try.underlying26 Y26) ?_
         replace h := Option.bind_eq_some_iff.1 h
         obtain ⟨⟨t522, t523⟩, hc241, h⟩ := h
         dsimp only at h
         refine L.C (C.callE (l := true) [] Try.func22 (impl_IsBiorder.ac _ _ _ _ _ _ hc241) .nil ?_)
         refine L.Y Y.mv ?_
         refine L.Y Y.ex ?_
         refine L.Y Y.ex ?_
         refine L.Y Y.asg ?_
         refine L.Y Y.asg ?_
         refine AList.nil ?_
         refine AWp.seq ?_
         refine W.kp [1, 5, 21, 22, 23, 24, 25, 26, 27, 28, 218, 219] ?_
         refine AWp.region ?_
         refine L.S (S.ldN Try.underlying26 Y26) ?_
         replace h := Option.bind_eq_some_iff.1 h
         obtain ⟨⟨t524, t525, t526, t529⟩, hc243, h⟩ := h
         dsimp only at h
         refine L.C (C.callE (l := true) [] Try.func30 (impl_MirrorTable.ac _ _ _ _ _ _ _ _ hc243) .nil ?_)
         refine L.Y Y.mv ?_
         refine L.Y Y.ex ?_
         refine L.Y Y.ex ?_
         refine L.M (M.al Y26) ?_
         refine L.S (S.stb Y26) ?_
         refine L.Y Y.asg ?_
         refine AList.nil ?_
         refine AWp.seq ?_
         refine W.kp [1, 5, 21, 22, 23, 24, 25, 26, 27, 28, 29, 30, 218, 219] ?_
         refine AWp.region ?_
         refine L.S (S.ldN Try.underlying26 Y26) ?_
         replace h := Option.bind_eq_some_iff.1 h
         obtain ⟨⟨t531, t532⟩, hc245, h⟩ := h
         dsimp only at h
         refine L.C (C.callE (l := true) [] Try.func22 (impl_IsBiorder.ac _ _ _ _ _ _ hc245) .nil ?_)
         refine L.Y Y.mv ?_
         refine L.Y Y.ex ?_
         refine L.Y Y.ex ?_
         refine L.Y Y.asg ?_
         refine L.Y Y.asg ?_
         refine AList.nil ?_
         refine AWp.seq ?_
         refine W.kp [1, 5, 21, 22, 23, 24, 25, 26, 27, 28, 29, 30, 31, 32, 218, 219] ?_
         refine AWp.region ?_
         refine L.S (S.ldN Try.underlying26 Y26) ?_
         replace h := Option.bind_eq_some_iff.1 h
         obtain ⟨⟨t533, t534, t535, t538⟩, hc247, h⟩ := h
         dsimp only at h
         refine L.C (C.callE (l := true) [] Try.func31 (impl_OppositeTable.ac _ _ _ _ _ _ _ _ hc247) .nil ?_)
         refine L.Y Y.mv ?_
         refine L.Y Y.ex ?_
         refine L.Y Y.ex ?_
         refine L.M (M.al Y26) ?_
         refine L.S (S.stb Y26) ?_
         refine L.Y Y.asg ?_
         refine AList.nil ?_
         refine AWp.seq ?_
         refine W.kp [1, 5, 21, 22, 23, 24, 25, 26, 27, 28, 29, 30, 31, 32, 33, 34, 218, 219] ?_
         refine AWp.region ?_
         refine L.S (S.ldN Try.underlying26 Y26) ?_
         replace h := Option.bind_eq_some_iff.1 h
         obtain ⟨⟨t540, t541⟩, hc249, h⟩ := h
         dsimp only at h
         refine L.C (C.callE (l := true) [] Try.func22 (impl_IsBiorder.ac _ _ _ _ _ _ hc249) .nil ?_)
         refine L.Y Y.mv ?_
         refine L.Y Y.ex ?_
         refine L.Y Y.ex ?_
         refine L.Y Y.asg ?_
         refine L.Y Y.asg ?_
         refine AList.nil ?_
         refine AWp.seq ?_
         refine W.kp [1, 5, 21, 22, 23, 24, 25, 26, 27, 28, 29, 30, 31, 32, 33, 34, 35, 36, 218, 219] ?_
         refine AWp.region ?_
         refine L.Y Y.mv ?_
         refine L.Y Y.mv ?_
         refine L.Gc (fun hb => ?_) (fun hb => ?_)
         ·
          have hb257 := hb
          try simp only [hS, hE, ne_eq] at hb
          first | rw [if_pos hb257] at h | rw [if_neg (Bool.eq_false_iff.1 hb257)] at h | rw [if_pos hb] at h | rw [if_neg hb] at h | (simp only [hb, hT, reduceIte] at h) | skip
          refine L.Gy hb257 Y.mv ?_
          refine L.Y (Y.pk (c := true) hb257) ?_
          refine L.Y Y.mv ?_
          refine L.Gc (fun hb => ?_) (fun hb => ?_)
          ·
           have hb258 := hb
           try simp only [hS, hE, ne_eq] at hb
           first | rw [if_pos hb258] at h | rw [if_neg (Bool.eq_false_iff.1 hb258)] at h | rw [if_pos hb] at h | rw [if_neg hb] at h | (simp only [hb, hT, reduceIte] at h) | skip
           refine L.Gy hb258 Y.mv ?_
           refine L.Y (Y.pk (c := true) hb258) ?_
           refine L.Y Y.mv ?_
           refine L.Gc (fun hb => ?_) (fun hb => ?_)
           ·
            have hb259 := hb
            try simp only [hS, hE, ne_eq] at hb
            first | rw [if_pos hb259] at h | rw [if_neg (Bool.eq_false_iff.1 hb259)] at h | rw [if_pos hb] at h | rw [if_neg hb] at h | (simp only [hb, hT, reduceIte] at h) | skip
            refine L.Gy hb259 Y.mv ?_
            refine L.Y (Y.pk (c := true) hb259) ?_
            refine L.Y Y.mv ?_
            refine L.Gc (fun hb => ?_) (fun hb => ?_)
            ·
             have hb260 := hb
             try simp only [hS, hE, ne_eq] at hb
             first | rw [if_pos hb260] at h | rw [if_neg (Bool.eq_false_iff.1 hb260)] at h | rw [if_pos hb] at h | rw [if_neg hb] at h | (simp only [hb, hT, reduceIte] at h) | skip
             refine L.Gy hb260 Y.mv ?_
             refine L.Y (Y.pk (c := true) hb260) ?_
             refine L.Y Y.mv ?_
             refine L.Gc (fun hb => ?_) (fun hb => ?_)
             ·
              have hb261 := hb
              try simp only [hS, hE, ne_eq] at hb
              first | rw [if_pos hb261] at h | rw [if_neg (Bool.eq_false_iff.1 hb261)] at h | rw [if_pos hb] at h | rw [if_neg hb] at h | (simp only [hb, hT, reduceIte] at h) | skip
              refine L.Gy hb261 Y.mv ?_
              refine L.Y (Y.pk (c := true) hb261) ?_
              refine L.Y Y.mv ?_
              refine L.Gc (fun hb => ?_) (fun hb => ?_)
              ·
               have hb262 := hb
               try simp only [hS, hE, ne_eq] at hb
               first | rw [if_pos hb262] at h | rw [if_neg (Bool.eq_false_iff.1 hb262)] at h | rw [if_pos hb] at h | rw [if_neg hb] at h | (simp only [hb, hT, reduceIte] at h) | skip
               refine L.Gy hb262 Y.mv ?_
               refine L.Y (Y.pk (c := true) hb262) ?_
               refine L.Y Y.mv ?_
               refine L.Gc (fun hb => ?_) (fun hb => ?_)
               ·
                have hb263 := hb
                try simp only [hS, hE, ne_eq] at hb
                first | rw [if_pos hb263] at h | rw [if_neg (Bool.eq_false_iff.1 hb263)] at h | rw [if_pos hb] at h | rw [if_neg hb] at h | (simp only [hb, hT, reduceIte] at h) | skip
                refine L.Gy hb263 Y.mv ?_
                refine L.Y (Y.pk (c := true) hb263) ?_
                refine L.Y Y.asg ?_
                refine AList.nil ?_
                refine AWp.ret ?_
                first | (exfalso; cases h; done) | exact ⟨.inr rfl, [(4, _)], _, ⟨rfl, rfl⟩, IsPart.at [] [] base0 .nil (E.c .nil (hs := Sub.litE (LV h)))⟩
               ·
                have hb263 := hb
                try simp only [hS, hE, ne_eq] at hb
                first | rw [if_pos hb263] at h | rw [if_neg (Bool.eq_false_iff.1 hb263)] at h | rw [if_pos hb] at h | rw [if_neg hb] at h | (simp only [hb, hT, reduceIte] at h) | skip
                exfalso
                revert h
                exact fun h => by simp at h
              ·
               have hb262 := hb
               try simp only [hS, hE, ne_eq] at hb
               first | rw [if_pos hb262] at h | rw [if_neg (Bool.eq_false_iff.1 hb262)] at h | rw [if_pos hb] at h | rw [if_neg hb] at h | (simp only [hb, hT, reduceIte] at h) | skip
               exfalso
               revert h
               exact fun h => by simp at h
             ·
              have hb261 := hb
              try simp only [hS, hE, ne_eq] at hb
              first | rw [if_pos hb261] at h | rw [if_neg (Bool.eq_false_iff.1 hb261)] at h | rw [if_pos hb] at h | rw [if_neg hb] at h | (simp only [hb, hT, reduceIte] at h) | skip
              exfalso
              revert h
              exact fun h => by simp at h
            ·
             have hb260 := hb
             try simp only [hS, hE, ne_eq] at hb
             first | rw [if_pos hb260] at h | rw [if_neg (Bool.eq_false_iff.1 hb260)] at h | rw [if_pos hb] at h | rw [if_neg hb] at h | (simp only [hb, hT, reduceIte] at h) | skip
             exfalso
             revert h
             exact fun h => by simp at h
           ·
            have hb259 := hb
            try simp only [hS, hE, ne_eq] at hb
            first | rw [if_pos hb259] at h | rw [if_neg (Bool.eq_false_iff.1 hb259)] at h | rw [if_pos hb] at h | rw [if_neg hb] at h | (simp only [hb, hT, reduceIte] at h) | skip
            exfalso
            revert h
            exact fun h => by simp at h
          ·
           have hb258 := hb
           try simp only [hS, hE, ne_eq] at hb
           first | rw [if_pos hb258] at h | rw [if_neg (Bool.eq_false_iff.1 hb258)] at h | rw [if_pos hb] at h | rw [if_neg hb] at h | (simp only [hb, hT, reduceIte] at h) | skip
           exfalso
           revert h
           exact fun h => by simp at h
         ·
          have hb257 := hb
          try simp only [hS, hE, ne_eq] at hb
          first | rw [if_pos hb257] at h | rw [if_neg (Bool.eq_false_iff.1 hb257)] at h | rw [if_pos hb] at h | rw [if_neg hb] at h | (simp only [hb, hT, reduceIte] at h) | skip
          exfalso
          revert h
          exact fun h => by simp at h
        ·
         have hb239 := hb
         try simp only [hS, hE, ne_eq] at hb
         first | rw [if_pos hb239] at h | rw [if_neg (Bool.eq_false_iff.1 hb239)] at h | rw [if_pos hb] at h | rw [if_neg hb] at h | (simp only [hb, hT, reduceIte] at h) | skip
         refine AWp.skip ?_
         refine AWp.seq ?_
         refine AWp.region ?_
         refine L.Y Y.asg ?_
         refine AList.nil ?_
         refine AWp.ret ?_
         first | (exfalso; cases h; done) | exact ⟨.inr rfl, [(4, _)], _, ⟨rfl, rfl⟩, IsPart.at [] [] base0 .nil (E.c .nil (hs := Sub.litE (LV h)))⟩

/-- THE ONE PURE STATEMENT of laws_FnBiordersHaveScales: yours. -/
def laws_FnBiordersHaveScales.Pure : Prop := ∀ (l0 : List Int) (l1 : List Int), l0.length ≤ maxLen → l0.length * 1 ≤ 140737488351232 → (∀ x ∈ l0, (Lit.int .u8 x).wf = true) → l1.length ≤ maxLen → l1.length * 1 ≤ 140737488351232 → (∀ x ∈ l1, (Lit.int .u8 x).wf = true) → ∃ k, laws_FnBiordersHaveScales.f k l0 l1 = some true
theorem laws_FnBiordersHaveScales.walk (P : laws_FnBiordersHaveScales.Pure) (a0 : Option Addr) (len0 cap0 : Nat) (z0 : List Int) (a1 : Option Addr) (len1 cap1 : Nat) (z1 : List Int) (w : World) (w0 : (a0 = none ∧ len0 = 0 ∧ cap0 = 0 ∧ z0 = []) ∨ ∃ x, a0 = some x ∧ len0 ≤ cap0 ∧ cap0 ≤ maxLen ∧ z0.length = cap0 ∧ (∀ i, i < z0.length → w.cell? (x.add i) = some (.int .u8 (z0.getD i 0))) ∧ ∀ n ∈ z0, (Lit.int .u8 n).wf = true) (y0 : len0 * 1 ≤ 140737488351232) (w1 : (a1 = none ∧ len1 = 0 ∧ cap1 = 0 ∧ z1 = []) ∨ ∃ x, a1 = some x ∧ len1 ≤ cap1 ∧ cap1 ≤ maxLen ∧ z1.length = cap1 ∧ (∀ i, i < z1.length → w.cell? (x.add i) = some (.int .u8 (z1.getD i 0))) ∧ ∀ n ∈ z1, (Lit.int .u8 n).wf = true) (y1 : len1 * 1 ≤ 140737488351232) :
  Calls Try.prog 5 #[.slice a0 len0 cap0, .slice a1 len1 cap1] w fun e w' => e = .returned (.bool true) ∧ Below w.heap.size w w' := by
 obtain ⟨hl0, hv0⟩ := VR.came (A0 := fun _ => .bool false) (H := []) w0
 obtain ⟨hm0, hw0⟩ := came_fits w0
 have y0' := y0
 rw [← hl0] at y0'
 obtain ⟨hl1, hv1⟩ := VR.came (A0 := fun _ => .bool false) (H := []) w1
 obtain ⟨hm1, hw1⟩ := came_fits w1
 have y1' := y1
 rw [← hl1] at y1'
 obtain ⟨k, h⟩ := P (z0.take len0) (z1.take len1) hm0 y0' hw0 hm1 y1' hw1
 refine ACalls.law (vs := [.slice a0 len0 cap0, .slice a1 len1 cap1]) (fun p hp => by cases hp) (laws_FnBiordersHaveScales.ac k (z0.take len0) (z1.take len1) h) ?_
 repeat' first | assumption | exact VRs_nil | exact VR_lit | refine VRs_cons ?_ ?_ | refine VR_agg ?_

end Go.Proofs.Ytakabmokpknknaa.PFnBiordersHaveScales
