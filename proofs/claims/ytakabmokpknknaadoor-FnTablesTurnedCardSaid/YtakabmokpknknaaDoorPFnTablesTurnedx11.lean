-- Written by a program of this session's (wip/myprint2): the functions by the kit's print, the walks by awgen.py. Lean checks it.
import Derived.Test.YtakabmokpknknaaDoorPFnTablesTurnedx0
import Derived.Test.YtakabmokpknknaaDoorPFnTablesTurnedx1
import Derived.Test.YtakabmokpknknaaDoorPFnTablesTurnedx4
import Derived.Test.YtakabmokpknknaaDoorPFnTablesTurnedx5
import Derived.Test.YtakabmokpknknaaDoorPFnTablesTurnedx6
import Derived.Test.YtakabmokpknknaaDoorPFnTablesTurnedx7
import Derived.Test.YtakabmokpknknaaDoorPFnTablesTurnedx8
import Derived.Test.YtakabmokpknknaaDoorPFnTablesTurnedx9
import Derived.Test.YtakabmokpknknaaDoorPFnTablesTurnedx10
namespace Go.Proofs.YtakabmokpknknaaDoor.PFnTablesTurned
open Go.RowKit Go.Proofs.YtakabmokpknknaaDoorW.PrintWords Go.Proofs.YtakabmokpknknaaDoorW.PrintLast Go.Proofs.YtakabmokpknknaaDoorW.PrintMore Go.Proofs.YtakabmokpknknaaDoorM Go.Proofs.YtakabmokpknknaaDoorA Go.Proofs.YtakabmokpknknaaDoorT
attribute [local go_sem] max2_int min2_int max_two min_two max_three min_three max_four min_four   -- for this text's walks alone
set_option linter.unusedVariables false
set_option linter.unusedSimpArgs false

/-! ### laws_FnTablesTurned: function 6 -/
mutual
def laws_FnTablesTurned.j0 : Nat → List Int → Bool → Bool → Int → Int → List Int → Int → Int → List Int → Int → Int → List Int → Option (Bool)
 | 0, _, _, _, _, _, _, _, _, _, _, _, _ => none
 | k + 1, x1, x8, x69, x434000, x434001, x434002, x435000, x435001, x435002, x442000, x442001, x442002 => if x69 = true then (some false) else ((impl_MirrorTable.f k x434000 x434001 x434002).bind fun bt450 => ((spec_MirrorTable.f k x434000 x434001 x434002).bind fun bt457 => ((impl_OppositeTable.f k x434000 x434001 x434002).bind fun bt464 => ((spec_OppositeTable.f k x434000 x434001 x434002).bind fun bt471 => (if (bt450.2.2.2 != bt457.2.2.2) = true then (laws_FnTablesTurned.j1 k x1 x8 bt450.2.2.2 true x434000 x434001 x434002 x435000 x435001 x435002 x442000 x442001 x442002 bt450.1 bt450.2.1 bt450.2.2.1 bt464.1 bt464.2.1 bt464.2.2.1) else ((laws_vTable.f k bt450.1 bt450.2.1 bt450.2.2.1 bt457.1 bt457.2.1 bt457.2.2.1).bind fun t478 => (if t478 = true then (if (bt464.2.2.2 != bt471.2.2.2) = true then (laws_FnTablesTurned.j1 k x1 x8 bt450.2.2.2 true x434000 x434001 x434002 x435000 x435001 x435002 x442000 x442001 x442002 bt450.1 bt450.2.1 bt450.2.2.1 bt464.1 bt464.2.1 bt464.2.2.1) else ((laws_vTable.f k bt464.1 bt464.2.1 bt464.2.2.1 bt471.1 bt471.2.1 bt471.2.2.1).bind fun t479 => (if t479 = true then ((impl_IsTable.f k x434000 x434001 x434002).bind fun t480 => (if (bt450.2.2.2 != t480) = true then (laws_FnTablesTurned.j1 k x1 x8 bt450.2.2.2 true x434000 x434001 x434002 x435000 x435001 x435002 x442000 x442001 x442002 bt450.1 bt450.2.1 bt450.2.2.1 bt464.1 bt464.2.1 bt464.2.2.1) else (laws_FnTablesTurned.j1 k x1 x8 bt450.2.2.2 (bt464.2.2.2 != bt450.2.2.2) x434000 x434001 x434002 x435000 x435001 x435002 x442000 x442001 x442002 bt450.1 bt450.2.1 bt450.2.2.1 bt464.1 bt464.2.1 bt464.2.2.1))) else (laws_FnTablesTurned.j1 k x1 x8 bt450.2.2.2 true x434000 x434001 x434002 x435000 x435001 x435002 x442000 x442001 x442002 bt450.1 bt450.2.1 bt450.2.2.1 bt464.1 bt464.2.1 bt464.2.2.1)))) else (laws_FnTablesTurned.j1 k x1 x8 bt450.2.2.2 true x434000 x434001 x434002 x435000 x435001 x435002 x442000 x442001 x442002 bt450.1 bt450.2.1 bt450.2.2.1 bt464.1 bt464.2.1 bt464.2.2.1))))))))
def laws_FnTablesTurned.j1 : Nat → List Int → Bool → Bool → Bool → Int → Int → List Int → Int → Int → List Int → Int → Int → List Int → Int → Int → List Int → Int → Int → List Int → Option (Bool)
 | 0, _, _, _, _, _, _, _, _, _, _, _, _, _, _, _, _, _, _, _ => none
 | k + 1, x1, x8, x12, x120, x434000, x434001, x434002, x435000, x435001, x435002, x442000, x442001, x442002, x457000, x457001, x457002, x471000, x471001, x471002 => if x120 = true then (some false) else (if x12 = true then ((impl_MirrorTable.f k x457000 x457001 x457002).bind fun bt481 => ((impl_OppositeTable.f k x471000 x471001 x471002).bind fun bt488 => ((impl_TableText.f k x434000 x434001 x434002).bind fun bt495 => ((impl_ParseTable.f k bt495.1).bind fun bt497 => ((impl_EmptyCells.f k x434000 x434001 x434002).bind fun bt504 => ((impl_EmptyCells.f k x471000 x471001 x471002).bind fun bt508 => (if bt481.2.2.2 = true then ((laws_vTable.f k bt481.1 bt481.2.1 bt481.2.2.1 x434000 x434001 x434002).bind fun t512 => (if t512 = true then (if bt488.2.2.2 = true then ((laws_vTable.f k bt488.1 bt488.2.1 bt488.2.2.1 x434000 x434001 x434002).bind fun t513 => (if t513 = true then (if bt495.2 = true then (if bt497.2.2.2 = true then ((laws_vTable.f k bt497.1 bt497.2.1 bt497.2.2.1 x434000 x434001 x434002).bind fun t514 => (if t514 = true then (if bt504.2 = true then (if bt508.2 = true then (laws_FnTablesTurned.j2 k x1 x8 bt504.1 bt508.1 ((wrap64 ((bt504.1.length : Int) + (bt508.1.length : Int))) != (wrap64 (x434000 * x434001))) x434000 x434001 x434002 x435000 x435001 x435002 x442000 x442001 x442002) else (laws_FnTablesTurned.j2 k x1 x8 bt504.1 bt508.1 true x434000 x434001 x434002 x435000 x435001 x435002 x442000 x442001 x442002)) else (laws_FnTablesTurned.j2 k x1 x8 bt504.1 bt508.1 true x434000 x434001 x434002 x435000 x435001 x435002 x442000 x442001 x442002)) else (laws_FnTablesTurned.j2 k x1 x8 bt504.1 bt508.1 true x434000 x434001 x434002 x435000 x435001 x435002 x442000 x442001 x442002))) else (laws_FnTablesTurned.j2 k x1 x8 bt504.1 bt508.1 true x434000 x434001 x434002 x435000 x435001 x435002 x442000 x442001 x442002)) else (laws_FnTablesTurned.j2 k x1 x8 bt504.1 bt508.1 true x434000 x434001 x434002 x435000 x435001 x435002 x442000 x442001 x442002)) else (laws_FnTablesTurned.j2 k x1 x8 bt504.1 bt508.1 true x434000 x434001 x434002 x435000 x435001 x435002 x442000 x442001 x442002))) else (laws_FnTablesTurned.j2 k x1 x8 bt504.1 bt508.1 true x434000 x434001 x434002 x435000 x435001 x435002 x442000 x442001 x442002)) else (laws_FnTablesTurned.j2 k x1 x8 bt504.1 bt508.1 true x434000 x434001 x434002 x435000 x435001 x435002 x442000 x442001 x442002))) else (laws_FnTablesTurned.j2 k x1 x8 bt504.1 bt508.1 true x434000 x434001 x434002 x435000 x435001 x435002 x442000 x442001 x442002)))))))) else (laws_FnTablesTurned.j4 k x1 x8 x434000 x434001 x434002 x435000 x435001 x435002 x442000 x442001 x442002))
def laws_FnTablesTurned.j4 : Nat → List Int → Bool → Int → Int → List Int → Int → Int → List Int → Int → Int → List Int → Option (Bool)
 | 0, _, _, _, _, _, _, _, _, _, _, _ => none
 | k + 1, x1, x8, x434000, x434001, x434002, x435000, x435001, x435002, x442000, x442001, x442002 => if x8 = true then (laws_FnTablesTurned.l1 k x1 0 x434000 x434001 x434002 x435000 x435001 x435002 x442000 x442001 x442002) else (laws_FnTablesTurned.j6 k x1)
def laws_FnTablesTurned.j6 : Nat → List Int → Option (Bool)
 | 0, _ => none
 | k + 1, x1 => (spec_DrawParseTable.f k x1).bind fun t521 => ((impl_ParseTable.f k t521).bind fun bt522 => ((spec_ParseTable.f k t521).bind fun bt529 => (if (bt522.2.2.2 != bt529.2.2.2) = true then (laws_FnTablesTurned.j7 k t521 bt522.2.2.2 true bt522.1 bt522.2.1 bt522.2.2.1) else ((laws_vTable.f k bt522.1 bt522.2.1 bt522.2.2.1 bt529.1 bt529.2.1 bt529.2.2.1).bind fun t536 => (laws_FnTablesTurned.j7 k t521 bt522.2.2.2 (!t536) bt522.1 bt522.2.1 bt522.2.2.1)))))
def laws_FnTablesTurned.j7 : Nat → ByteArray → Bool → Bool → Int → Int → List Int → Option (Bool)
 | 0, _, _, _, _, _, _ => none
 | k + 1, x34, x36, x262, x529000, x529001, x529002 => if x262 = true then (some false) else (if x36 = true then ((impl_TableText.f k x529000 x529001 x529002).bind fun bt537 => (if bt537.2 = true then (some (bt537.1.toList == x34.toList)) else (some false))) else (some true))
def laws_FnTablesTurned.l1 : Nat → List Int → Int → Int → Int → List Int → Int → Int → List Int → Int → Int → List Int → Option (Bool)
 | 0, _, _, _, _, _, _, _, _, _, _, _ => none
 | k + 1, x1, x33, x434000, x434001, x434002, x435000, x435001, x435002, x442000, x442001, x442002 => if x33 < (wrap64 (x434000 * x434001)) then ((laws_vMarked.f x442000 x442001 x442002 x33).bind fun t518 => ((laws_vMarked.f x434000 x434001 x434002 x33).bind fun t519 => (if t519 = true then ((laws_vMarked.f x435000 x435001 x435002 x33).bind fun t520 => (if (t518 != t520) = true then (some false) else (laws_FnTablesTurned.l1 k x1 (wrap64 (x33 + 1)) x434000 x434001 x434002 x435000 x435001 x435002 x442000 x442001 x442002))) else (if (t518 != false) = true then (some false) else (laws_FnTablesTurned.l1 k x1 (wrap64 (x33 + 1)) x434000 x434001 x434002 x435000 x435001 x435002 x442000 x442001 x442002))))) else (laws_FnTablesTurned.j6 k x1)
def laws_FnTablesTurned.j2 : Nat → List Int → Bool → List Int → List Int → Bool → Int → Int → List Int → Int → Int → List Int → Int → Int → List Int → Option (Bool)
 | 0, _, _, _, _, _, _, _, _, _, _, _, _, _, _ => none
 | k + 1, x1, x8, x27, x29, x204, x434000, x434001, x434002, x435000, x435001, x435002, x442000, x442001, x442002 => if x204 = true then (some false) else (laws_FnTablesTurned.l0 k x1 x8 x29 x27 (x27.length : Int) 0 x434000 x434001 x434002 x435000 x435001 x435002 x442000 x442001 x442002)
def laws_FnTablesTurned.l0 : Nat → List Int → Bool → List Int → List Int → Int → Int → Int → Int → List Int → Int → Int → List Int → Int → Int → List Int → Option (Bool)
 | 0, _, _, _, _, _, _, _, _, _, _, _, _, _, _, _ => none
 | k + 1, x1, x8, x29, x205, x206, x207, x434000, x434001, x434002, x435000, x435001, x435002, x442000, x442001, x442002 => if x207 < x206 then (if 0 ≤ x207 then (if x207 < (x205.length : Int) then ((laws_vMarked.f x434000 x434001 x434002 (rd x205 x207)).bind fun t516 => (if t516 = true then (some false) else ((laws_vHas.f k x29 (rd x205 x207)).bind fun t517 => (if t517 = true then (some false) else (laws_FnTablesTurned.l0 k x1 x8 x29 x205 x206 (wrap64 (x207 + 1)) x434000 x434001 x434002 x435000 x435001 x435002 x442000 x442001 x442002))))) else (none)) else (none)) else (laws_FnTablesTurned.j4 k x1 x8 x434000 x434001 x434002 x435000 x435001 x435002 x442000 x442001 x442002)
end
def laws_FnTablesTurned.f (k : Nat) (l0 : List Int) (l1 : List Int) : Option (Bool) := (laws_big.f l0 l1).bind fun t422 => (if t422 = true then (some true) else ((spec_DrawMeetTables.f k l0).bind fun bt423 => ((impl_MeetTables.f k bt423.1 bt423.2.1 bt423.2.2.1 bt423.2.2.2.1 bt423.2.2.2.2.1 bt423.2.2.2.2.2).bind fun bt435 => ((spec_MeetTables.f k bt423.1 bt423.2.1 bt423.2.2.1 bt423.2.2.2.1 bt423.2.2.2.2.1 bt423.2.2.2.2.2).bind fun bt442 => (if (bt435.2.2.2 != bt442.2.2.2) = true then (laws_FnTablesTurned.j0 k l1 bt435.2.2.2 true bt423.1 bt423.2.1 bt423.2.2.1 bt423.2.2.2.1 bt423.2.2.2.2.1 bt423.2.2.2.2.2 bt435.1 bt435.2.1 bt435.2.2.1) else ((laws_vTable.f k bt435.1 bt435.2.1 bt435.2.2.1 bt442.1 bt442.2.1 bt442.2.2.1).bind fun t449 => (laws_FnTablesTurned.j0 k l1 bt435.2.2.2 (!t449) bt423.1 bt423.2.1 bt423.2.2.1 bt423.2.2.2.1 bt423.2.2.2.2.1 bt423.2.2.2.2.2 bt435.1 bt435.2.1 bt435.2.2.1)))))))
set_option maxRecDepth 100000 in
set_option maxHeartbeats 20000000 in
theorem laws_FnTablesTurned.ac (k : Nat) (l0 : List Int) (l1 : List Int)  (h : laws_FnTablesTurned.f k l0 l1 = some true) :
  ACalls Tryd.prog 6 [.row 1 l0.length false (ints .u8 l0), .row 1 l1.length false (ints .u8 l1)] [] (fun v H' => v = .lit (.bool true) ∧ H' = []) := by
 refine ACalls.ofP [4] Tryd.func6 rfl (by exact Nat.le_of_ble_eq_true rfl) rfl (by decide) ?_
 simp only [Tryd.ntmps6, env0, laws_FnTablesTurned.f] at h ⊢
 refine AWp.seq ?_
 refine AWp.region ?_
 refine L.Y Y.asg ?_
 refine AList.nil ?_
 refine AWp.seq ?_
 refine AWp.seq ?_
 refine AWp.region ?_
 refine L.Y Y.mv ?_
 refine L.Y Y.mv ?_
 replace h := Option.bind_eq_some_iff.1 h
 obtain ⟨t422, hc1, h⟩ := h
 refine L.C (C.callE (l := true) [] Tryd.func16 (laws_big.ac _ _ _ hc1) .nil ?_)
 refine AList.nil ?_
 refine W.cond (fun hb => ?_) (fun hb => ?_)
 ·
  have hb2 := hb
  try simp only [hS, hE, ne_eq] at hb
  first | rw [if_pos hb2] at h | rw [if_neg (Bool.eq_false_iff.1 hb2)] at h | rw [if_pos hb] at h | rw [if_neg hb] at h | (simp only [hb, hT, reduceIte] at h) | skip
  refine AWp.seq ?_
  refine AWp.region ?_
  refine L.Y Y.asg ?_
  refine AList.nil ?_
  refine AWp.ret ?_
  first | (exfalso; cases h; done) | exact ⟨.inr rfl, [(4, _)], _, ⟨rfl, rfl⟩, IsPart.at [] [] base0 .nil (E.c .nil (hs := Sub.litE (LV h)))⟩
 ·
  have hb2 := hb
  try simp only [hS, hE, ne_eq] at hb
  first | rw [if_pos hb2] at h | rw [if_neg (Bool.eq_false_iff.1 hb2)] at h | rw [if_pos hb] at h | rw [if_neg hb] at h | (simp only [hb, hT, reduceIte] at h) | skip
  refine AWp.skip ?_
  refine AWp.seq ?_
  refine AWp.region ?_
  refine L.Y Y.mv ?_
  replace h := Option.bind_eq_some_iff.1 h
  obtain ⟨⟨t423, t424, t425, t428, t429, t430⟩, hc3, h⟩ := h
  dsimp only at h
  refine L.C (C.callE (l := true) [] Tryd.func37 (spec_DrawMeetTables.ac _ _ _ _ _ _ _ _ hc3) .nil ?_)
  refine L.Y Y.mv ?_
  refine L.Y Y.ex ?_
  refine L.Y Y.ex ?_
  refine L.M (M.al Y59) ?_
  refine L.M (M.al Y59) ?_
  refine L.S (S.stb Y59) ?_
  refine L.S (S.stb Y59) ?_
  refine AList.nil ?_
  refine AWp.seq ?_
  refine W.kp [0, 1, 4, 5, 6, 43] ?_
  refine AWp.region ?_
  refine L.S (S.ldN Tryd.underlying59 Y59) ?_
  refine L.S (S.ldN Tryd.underlying59 Y59) ?_
  replace h := Option.bind_eq_some_iff.1 h
  obtain ⟨⟨t435, t436, t437, t440⟩, hc4, h⟩ := h
  dsimp only at h
  refine L.C (C.callE (l := true) [] Tryd.func38 (impl_MeetTables.ac _ _ _ _ _ _ _ _ _ _ _ hc4) .nil ?_)
  refine L.Y Y.mv ?_
  refine L.Y Y.ex ?_
  refine L.Y Y.ex ?_
  refine L.M (M.al Y59) ?_
  refine L.S (S.stb Y59) ?_
  refine L.Y Y.asg ?_
  refine AList.nil ?_
  refine AWp.seq ?_
  refine W.kp [0, 1, 4, 5, 6, 7, 8, 43] ?_
  refine AWp.region ?_
  refine L.S (S.ldN Tryd.underlying59 Y59) ?_
  refine L.S (S.ldN Tryd.underlying59 Y59) ?_
  replace h := Option.bind_eq_some_iff.1 h
  obtain ⟨⟨t442, t443, t444, t447⟩, hc5, h⟩ := h
  dsimp only at h
  refine L.C (C.callE (l := true) [] Tryd.func39 (spec_MeetTables.ac _ _ _ _ _ _ _ _ _ _ _ hc5) .nil ?_)
  refine L.Y Y.mv ?_
  refine L.Y Y.ex ?_
  refine L.Y Y.ex ?_
  refine L.M (M.al Y59) ?_
  refine L.S (S.stb Y59) ?_
  refine L.Y Y.asg ?_
  refine AList.nil ?_
  refine AWp.seq ?_
  refine AWp.seq ?_
  refine W.kp [0, 1, 4, 5, 6, 7, 8, 9, 10, 43] ?_
  refine AWp.region ?_
  refine L.Y Y.mv ?_
  refine L.Y Y.mv ?_
  refine L.Y (Y.bb Tryd.underlying4) ?_
  refine L.Y Y.mv ?_
  refine L.Gc (fun hb => ?_) (fun hb => ?_)
  ·
   have hb6 := hb
   try simp only [hS, hE, ne_eq] at hb
   first | rw [if_pos hb6] at h | rw [if_neg (Bool.eq_false_iff.1 hb6)] at h | rw [if_pos hb] at h | rw [if_neg hb] at h | (simp only [hb, hT, reduceIte] at h) | skip
   exfalso
   revert h
   exact fun h => by cases k <;> simp [laws_FnTablesTurned.j0] at h
  ·
   have hb6 := hb
   try simp only [hS, hE, ne_eq] at hb
   first | rw [if_pos hb6] at h | rw [if_neg (Bool.eq_false_iff.1 hb6)] at h | rw [if_pos hb] at h | rw [if_neg hb] at h | (simp only [hb, hT, reduceIte] at h) | skip
   refine L.Gs hb6 (S.ldN Tryd.underlying59 Y59) ?_
   refine L.Gs hb6 (S.ldN Tryd.underlying59 Y59) ?_
   replace h := Option.bind_eq_some_iff.1 h
   obtain ⟨t449, hc7, h⟩ := h
   refine L.GC hb6 (C.callE (l := true) [] Tryd.func40 (laws_vTable.ac _ _ _ _ _ _ _ _ hc7) .nil ?_)
   refine L.Gy hb6 Y.nt ?_
   refine L.Y (Y.pk (c := false) hb6) ?_
   refine AList.nil ?_
   rcases k with _ | k
   ·
    exact absurd h (by simp [laws_FnTablesTurned.j0])
   simp only [laws_FnTablesTurned.j0] at h
   refine W.cond (fun hb => ?_) (fun hb => ?_)
   ·
    have hb8 := hb
    try simp only [hS, hE, ne_eq] at hb
    first | rw [if_pos hb8] at h | rw [if_neg (Bool.eq_false_iff.1 hb8)] at h | rw [if_pos hb] at h | rw [if_neg hb] at h | (simp only [hb, hT, reduceIte] at h) | skip
    exfalso
    revert h
    exact fun h => by simp at h
   ·
    have hb8 := hb
    try simp only [hS, hE, ne_eq] at hb
    first | rw [if_pos hb8] at h | rw [if_neg (Bool.eq_false_iff.1 hb8)] at h | rw [if_pos hb] at h | rw [if_neg hb] at h | (simp only [hb, hT, reduceIte] at h) | skip
    refine AWp.skip ?_
    refine AWp.seq ?_
    refine W.kp [0, 1, 4, 5, 6, 7, 8, 9, 10, 43, 69] ?_
    refine AWp.region ?_
    refine L.S (S.ldN Tryd.underlying59 Y59) ?_
    replace h := Option.bind_eq_some_iff.1 h
    obtain ⟨⟨t450, t451, t452, t455⟩, hc9, h⟩ := h
    dsimp only at h
    refine L.C (C.callE (l := true) [] Tryd.func41 (impl_MirrorTable.ac _ _ _ _ _ _ _ _ hc9) .nil ?_)
    refine L.Y Y.mv ?_
    refine L.Y Y.ex ?_
    refine L.Y Y.ex ?_
    refine L.M (M.al Y59) ?_
    refine L.S (S.stb Y59) ?_
    refine L.Y Y.asg ?_
    refine AList.nil ?_
    refine AWp.seq ?_
    refine W.kp [0, 1, 4, 5, 6, 7, 8, 9, 10, 11, 12, 43, 69] ?_
    refine AWp.region ?_
    refine L.S (S.ldN Tryd.underlying59 Y59) ?_
    replace h := Option.bind_eq_some_iff.1 h
    obtain ⟨⟨t457, t458, t459, t462⟩, hc10, h⟩ := h
    dsimp only at h
    refine L.C (C.callE (l := true) [] Tryd.func42 (spec_MirrorTable.ac _ _ _ _ _ _ _ _ hc10) .nil ?_)
    refine L.Y Y.mv ?_
    refine L.Y Y.ex ?_
    refine L.Y Y.ex ?_
    refine L.M (M.al Y59) ?_
    refine L.S (S.stb Y59) ?_
    refine L.Y Y.asg ?_
    refine AList.nil ?_
    refine AWp.seq ?_
    refine W.kp [0, 1, 4, 5, 6, 7, 8, 9, 10, 11, 12, 13, 14, 43, 69] ?_
    refine AWp.region ?_
    refine L.S (S.ldN Tryd.underlying59 Y59) ?_
    replace h := Option.bind_eq_some_iff.1 h
    obtain ⟨⟨t464, t465, t466, t469⟩, hc11, h⟩ := h
    dsimp only at h
    refine L.C (C.callE (l := true) [] Tryd.func43 (impl_OppositeTable.ac _ _ _ _ _ _ _ _ hc11) .nil ?_)
    refine L.Y Y.mv ?_
    refine L.Y Y.ex ?_
    refine L.Y Y.ex ?_
    refine L.M (M.al Y59) ?_
    refine L.S (S.stb Y59) ?_
    refine L.Y Y.asg ?_
    refine AList.nil ?_
    refine AWp.seq ?_
    refine W.kp [0, 1, 4, 5, 6, 7, 8, 9, 10, 11, 12, 13, 14, 15, 16, 43, 69] ?_
    refine AWp.region ?_
    refine L.S (S.ldN Tryd.underlying59 Y59) ?_
    replace h := Option.bind_eq_some_iff.1 h
    obtain ⟨⟨t471, t472, t473, t476⟩, hc12, h⟩ := h
    dsimp only at h
    refine L.C (C.callE (l := true) [] Tryd.func44 (spec_OppositeTable.ac _ _ _ _ _ _ _ _ hc12) .nil ?_)
    refine L.Y Y.mv ?_
    refine L.Y Y.ex ?_
    refine L.Y Y.ex ?_
    refine L.M (M.al Y59) ?_
    refine L.S (S.stb Y59) ?_
    refine L.Y Y.asg ?_
    refine AList.nil ?_
    refine AWp.seq ?_
    refine AWp.seq ?_
    refine W.kp [0, 1, 4, 5, 6, 7, 8, 9, 10, 11, 12, 13, 14, 15, 16, 17, 18, 43, 69] ?_
    refine AWp.region ?_
    refine L.Y Y.mv ?_
    refine L.Y Y.mv ?_
    refine L.Y (Y.bb Tryd.underlying4) ?_
    refine L.Y Y.mv ?_
    refine L.Gc (fun hb => ?_) (fun hb => ?_)
    ·
     have hb13 := hb
     try simp only [hS, hE, ne_eq] at hb
     first | rw [if_pos hb13] at h | rw [if_neg (Bool.eq_false_iff.1 hb13)] at h | rw [if_pos hb] at h | rw [if_neg hb] at h | (simp only [hb, hT, reduceIte] at h) | skip
     exfalso
     revert h
     exact fun h => by cases k <;> simp [laws_FnTablesTurned.j1] at h
    ·
     have hb13 := hb
     try simp only [hS, hE, ne_eq] at hb
     first | rw [if_pos hb13] at h | rw [if_neg (Bool.eq_false_iff.1 hb13)] at h | rw [if_pos hb] at h | rw [if_neg hb] at h | (simp only [hb, hT, reduceIte] at h) | skip
     refine L.Gs hb13 (S.ldN Tryd.underlying59 Y59) ?_
     refine L.Gs hb13 (S.ldN Tryd.underlying59 Y59) ?_
     replace h := Option.bind_eq_some_iff.1 h
     obtain ⟨t478, hc14, h⟩ := h
     refine L.GC hb13 (C.callE (l := true) [] Tryd.func40 (laws_vTable.ac _ _ _ _ _ _ _ _ hc14) .nil ?_)
     refine L.Gy hb13 Y.nt ?_
     refine L.Y (Y.pk (c := false) hb13) ?_
     refine L.Y Y.mv ?_
     refine L.Gc (fun hb => ?_) (fun hb => ?_)
     ·
      have hb15 := hb
      try simp only [hS, hE, ne_eq] at hb
      first | rw [if_pos hb15] at h | rw [if_neg (Bool.eq_false_iff.1 hb15)] at h | rw [if_pos hb] at h | rw [if_neg hb] at h | (simp only [hb, hT, reduceIte] at h) | skip
      exfalso
      revert h
      exact fun h => by cases k <;> simp [laws_FnTablesTurned.j1] at h
     ·
      have hb15 := hb
      try simp only [hS, hE, ne_eq] at hb
      first | rw [if_pos hb15] at h | rw [if_neg (Bool.eq_false_iff.1 hb15)] at h | rw [if_pos hb] at h | rw [if_neg hb] at h | (simp only [hb, hT, reduceIte] at h) | skip
      refine L.Gy hb15 Y.mv ?_
      refine L.Gy hb15 Y.mv ?_
      refine L.Gy hb15 (Y.bb Tryd.underlying4) ?_
      refine L.Y (Y.pk (c := false) hb15) ?_
      refine L.Y Y.mv ?_
      refine L.Gc (fun hb => ?_) (fun hb => ?_)
      ·
       have hb16 := hb
       try simp only [hS, hE, ne_eq] at hb
       first | rw [if_pos hb16] at h | rw [if_neg (Bool.eq_false_iff.1 hb16)] at h | rw [if_pos hb] at h | rw [if_neg hb] at h | (simp only [hb, hT, reduceIte] at h) | skip
       exfalso
       revert h
       exact fun h => by cases k <;> simp [laws_FnTablesTurned.j1] at h
      ·
       have hb16 := hb
       try simp only [hS, hE, ne_eq] at hb
       first | rw [if_pos hb16] at h | rw [if_neg (Bool.eq_false_iff.1 hb16)] at h | rw [if_pos hb] at h | rw [if_neg hb] at h | (simp only [hb, hT, reduceIte] at h) | skip
       refine L.Gs hb16 (S.ldN Tryd.underlying59 Y59) ?_
       refine L.Gs hb16 (S.ldN Tryd.underlying59 Y59) ?_
       replace h := Option.bind_eq_some_iff.1 h
       obtain ⟨t479, hc17, h⟩ := h
       refine L.GC hb16 (C.callE (l := true) [] Tryd.func40 (laws_vTable.ac _ _ _ _ _ _ _ _ hc17) .nil ?_)
       refine L.Gy hb16 Y.nt ?_
       refine L.Y (Y.pk (c := false) hb16) ?_
       refine L.Y Y.mv ?_
       refine L.Gc (fun hb => ?_) (fun hb => ?_)
       ·
        have hb18 := hb
        try simp only [hS, hE, ne_eq] at hb
        first | rw [if_pos hb18] at h | rw [if_neg (Bool.eq_false_iff.1 hb18)] at h | rw [if_pos hb] at h | rw [if_neg hb] at h | (simp only [hb, hT, reduceIte] at h) | skip
        exfalso
        revert h
        exact fun h => by cases k <;> simp [laws_FnTablesTurned.j1] at h
       ·
        have hb18 := hb
        try simp only [hS, hE, ne_eq] at hb
        first | rw [if_pos hb18] at h | rw [if_neg (Bool.eq_false_iff.1 hb18)] at h | rw [if_pos hb] at h | rw [if_neg hb] at h | (simp only [hb, hT, reduceIte] at h) | skip
        refine L.Gy hb18 Y.mv ?_
        refine L.Gs hb18 (S.ldN Tryd.underlying59 Y59) ?_
        replace h := Option.bind_eq_some_iff.1 h
        obtain ⟨t480, hc19, h⟩ := h
        refine L.GC hb18 (C.callE (l := true) [] Tryd.func45 (impl_IsTable.ac _ _ _ _ _ hc19) .nil ?_)
        refine L.Gy hb18 (Y.bb Tryd.underlying4) ?_
        refine L.Y (Y.pk (c := false) hb18) ?_
        refine L.Y Y.mv ?_
        refine L.Gc (fun hb => ?_) (fun hb => ?_)
        ·
         have hb20 := hb
         try simp only [hS, hE, ne_eq] at hb
         first | rw [if_pos hb20] at h | rw [if_neg (Bool.eq_false_iff.1 hb20)] at h | rw [if_pos hb] at h | rw [if_neg hb] at h | (simp only [hb, hT, reduceIte] at h) | skip
         exfalso
         revert h
         exact fun h => by cases k <;> simp [laws_FnTablesTurned.j1] at h
        ·
         have hb20 := hb
         try simp only [hS, hE, ne_eq] at hb
         first | rw [if_pos hb20] at h | rw [if_neg (Bool.eq_false_iff.1 hb20)] at h | rw [if_pos hb] at h | rw [if_neg hb] at h | (simp only [hb, hT, reduceIte] at h) | skip
         refine L.Gy hb20 Y.mv ?_
         refine L.Gy hb20 Y.mv ?_
         refine L.Gy hb20 (Y.bb Tryd.underlying4) ?_
         refine L.Y (Y.pk (c := false) hb20) ?_
         refine AList.nil ?_
         rcases k with _ | k
         ·
          exact absurd h (by simp [laws_FnTablesTurned.j1])
         simp only [laws_FnTablesTurned.j1] at h
         refine W.cond (fun hb => ?_) (fun hb => ?_)
         ·
          have hb21 := hb
          try simp only [hS, hE, ne_eq] at hb
          first | rw [if_pos hb21] at h | rw [if_neg (Bool.eq_false_iff.1 hb21)] at h | rw [if_pos hb] at h | rw [if_neg hb] at h | (simp only [hb, hT, reduceIte] at h) | skip
          exfalso
          revert h
          exact fun h => by simp at h
         ·
          have hb21 := hb
          try simp only [hS, hE, ne_eq] at hb
          first | rw [if_pos hb21] at h | rw [if_neg (Bool.eq_false_iff.1 hb21)] at h | rw [if_pos hb] at h | rw [if_neg hb] at h | (simp only [hb, hT, reduceIte] at h) | skip
          refine AWp.skip ?_
          refine AWp.seq ?_
          refine AWp.seq ?_
          refine W.kp [0, 1, 4, 5, 6, 7, 8, 9, 10, 11, 12, 13, 14, 15, 16, 17, 18, 43, 69, 120] ?_
          refine AWp.region ?_
          refine L.Y Y.mv ?_
          refine AList.nil ?_
          refine W.cond (fun hb => ?_) (fun hb => ?_)
          ·
           have hb22 := hb
           try simp only [hS, hE, ne_eq] at hb
           first | rw [if_pos hb22] at h | rw [if_neg (Bool.eq_false_iff.1 hb22)] at h | rw [if_pos hb] at h | rw [if_neg hb] at h | (simp only [hb, hT, reduceIte] at h) | skip
           refine AWp.seq ?_
           refine AWp.region ?_
           refine L.S (S.ldN Tryd.underlying59 Y59) ?_
           replace h := Option.bind_eq_some_iff.1 h
           obtain ⟨⟨t481, t482, t483, t486⟩, hc23, h⟩ := h
           dsimp only at h
           refine L.C (C.callE (l := true) [] Tryd.func41 (impl_MirrorTable.ac _ _ _ _ _ _ _ _ hc23) .nil ?_)
           refine L.Y Y.mv ?_
           refine L.Y Y.ex ?_
           refine L.Y Y.ex ?_
           refine L.M (M.al Y59) ?_
           refine L.S (S.stb Y59) ?_
           refine L.Y Y.asg ?_
           refine AList.nil ?_
           refine AWp.seq ?_
           refine W.kp [0, 1, 4, 5, 6, 7, 8, 9, 10, 11, 12, 13, 14, 15, 16, 17, 18, 19, 20, 43, 69, 120, 121] ?_
           refine AWp.region ?_
           refine L.S (S.ldN Tryd.underlying59 Y59) ?_
           replace h := Option.bind_eq_some_iff.1 h
           obtain ⟨⟨t488, t489, t490, t493⟩, hc24, h⟩ := h
           dsimp only at h
           refine L.C (C.callE (l := true) [] Tryd.func43 (impl_OppositeTable.ac _ _ _ _ _ _ _ _ hc24) .nil ?_)
           refine L.Y Y.mv ?_
           refine L.Y Y.ex ?_
           refine L.Y Y.ex ?_
           refine L.M (M.al Y59) ?_
           refine L.S (S.stb Y59) ?_
           refine L.Y Y.asg ?_
           refine AList.nil ?_
           refine AWp.seq ?_
           refine W.kp [0, 1, 4, 5, 6, 7, 8, 9, 10, 11, 12, 13, 14, 15, 16, 17, 18, 19, 20, 21, 22, 43, 69, 120, 121] ?_
           refine AWp.region ?_
           refine L.S (S.ldN Tryd.underlying59 Y59) ?_
           replace h := Option.bind_eq_some_iff.1 h
           obtain ⟨⟨t495, t496⟩, hc25, h⟩ := h
           dsimp only at h
           refine L.C (C.callE (l := true) [] Tryd.func46 (impl_TableText.ac _ _ _ _ _ _ hc25) .nil ?_)
           refine L.Y Y.mv ?_
           refine L.Y Y.ex ?_
           refine L.Y Y.ex ?_
           refine L.Y Y.asg ?_
           refine L.Y Y.asg ?_
           refine AList.nil ?_
           refine AWp.seq ?_
           refine W.kp [0, 1, 4, 5, 6, 7, 8, 9, 10, 11, 12, 13, 14, 15, 16, 17, 18, 19, 20, 21, 22, 23, 24, 43, 69, 120, 121] ?_
           refine AWp.region ?_
           refine L.Y Y.mv ?_
           replace h := Option.bind_eq_some_iff.1 h
           obtain ⟨⟨t497, t498, t499, t502⟩, hc26, h⟩ := h
           dsimp only at h
           refine L.C (C.callE (l := true) [] Tryd.func47 (impl_ParseTable.ac _ _ _ _ _ _ hc26) .nil ?_)
           refine L.Y Y.mv ?_
           refine L.Y Y.ex ?_
           refine L.Y Y.ex ?_
           refine L.M (M.al Y59) ?_
           refine L.S (S.stb Y59) ?_
           refine L.Y Y.asg ?_
           refine AList.nil ?_
           refine AWp.seq ?_
           refine W.kp [0, 1, 4, 5, 6, 7, 8, 9, 10, 11, 12, 13, 14, 15, 16, 17, 18, 19, 20, 21, 22, 23, 24, 25, 26, 43, 69, 120, 121] ?_
           refine AWp.region ?_
           refine L.S (S.ldN Tryd.underlying59 Y59) ?_
           replace h := Option.bind_eq_some_iff.1 h
           obtain ⟨⟨t504, t507⟩, hc27, h⟩ := h
           dsimp only at h
           refine L.C (C.callE (l := true) [] Tryd.func48 (impl_EmptyCells.ac _ _ _ _ _ _ hc27) .nil ?_)
           refine L.Y Y.mv ?_
           refine L.Y Y.ex ?_
           refine L.Y Y.ex ?_
           refine L.Y Y.asg ?_
           refine L.Y Y.asg ?_
           refine AList.nil ?_
           refine AWp.seq ?_
           refine W.kp [0, 1, 4, 5, 6, 7, 8, 9, 10, 11, 12, 13, 14, 15, 16, 17, 18, 19, 20, 21, 22, 23, 24, 25, 26, 27, 28, 43, 69, 120, 121] ?_
           refine AWp.region ?_
           refine L.S (S.ldN Tryd.underlying59 Y59) ?_
           replace h := Option.bind_eq_some_iff.1 h
           obtain ⟨⟨t508, t511⟩, hc28, h⟩ := h
           dsimp only at h
           refine L.C (C.callE (l := true) [] Tryd.func48 (impl_EmptyCells.ac _ _ _ _ _ _ hc28) .nil ?_)
           refine L.Y Y.mv ?_
           refine L.Y Y.ex ?_
           refine L.Y Y.ex ?_
           refine L.Y Y.asg ?_
           refine L.Y Y.asg ?_
           refine AList.nil ?_
           refine AWp.seq ?_
           refine AWp.seq ?_
           refine W.kp [0, 1, 4, 5, 6, 7, 8, 9, 10, 11, 12, 13, 14, 15, 16, 17, 18, 19, 20, 21, 22, 23, 24, 25, 26, 27, 28, 29, 30, 43, 69, 120, 121] ?_
           refine AWp.region ?_
           refine L.Y Y.mv ?_
           refine L.Y Y.nt ?_
           refine L.Y Y.mv ?_
           refine L.Gc (fun hb => ?_) (fun hb => ?_)
           ·
            have hb29 := hb
            try simp only [hS, hE, ne_eq] at hb
            first | rw [if_pos hb29] at h | rw [if_neg (Bool.eq_false_iff.1 hb29)] at h | rw [if_pos hb] at h | rw [if_neg hb] at h | (simp only [hb, hT, reduceIte] at h) | skip
            exfalso
            revert h
            exact fun h => by cases k <;> simp [laws_FnTablesTurned.j2] at h
           ·
            have hb29 := hb
            try simp only [hS, hE, ne_eq] at hb
            first | rw [if_pos hb29] at h | rw [if_neg (Bool.eq_false_iff.1 hb29)] at h | rw [if_pos hb] at h | rw [if_neg hb] at h | (simp only [hb, hT, reduceIte] at h) | skip
            refine L.Gs hb29 (S.ldN Tryd.underlying59 Y59) ?_
            refine L.Gs hb29 (S.ldN Tryd.underlying59 Y59) ?_
            replace h := Option.bind_eq_some_iff.1 h
            obtain ⟨t512, hc30, h⟩ := h
            refine L.GC hb29 (C.callE (l := true) [] Tryd.func40 (laws_vTable.ac _ _ _ _ _ _ _ _ hc30) .nil ?_)
            refine L.Gy hb29 Y.nt ?_
            refine L.Y (Y.pk (c := false) hb29) ?_
            refine L.Y Y.mv ?_
            refine L.Gc (fun hb => ?_) (fun hb => ?_)
            ·
             have hb31 := hb
             try simp only [hS, hE, ne_eq] at hb
             first | rw [if_pos hb31] at h | rw [if_neg (Bool.eq_false_iff.1 hb31)] at h | rw [if_pos hb] at h | rw [if_neg hb] at h | (simp only [hb, hT, reduceIte] at h) | skip
             exfalso
             revert h
             exact fun h => by cases k <;> simp [laws_FnTablesTurned.j2] at h
            ·
             have hb31 := hb
             try simp only [hS, hE, ne_eq] at hb
             first | rw [if_pos hb31] at h | rw [if_neg (Bool.eq_false_iff.1 hb31)] at h | rw [if_pos hb] at h | rw [if_neg hb] at h | (simp only [hb, hT, reduceIte] at h) | skip
             refine L.Gy hb31 Y.mv ?_
             refine L.Gy hb31 Y.nt ?_
             refine L.Y (Y.pk (c := false) hb31) ?_
             refine L.Y Y.mv ?_
             refine L.Gc (fun hb => ?_) (fun hb => ?_)
             ·
              have hb32 := hb
              try simp only [hS, hE, ne_eq] at hb
              first | rw [if_pos hb32] at h | rw [if_neg (Bool.eq_false_iff.1 hb32)] at h | rw [if_pos hb] at h | rw [if_neg hb] at h | (simp only [hb, hT, reduceIte] at h) | skip
              exfalso
              revert h
              exact fun h => by cases k <;> simp [laws_FnTablesTurned.j2] at h
             ·
              have hb32 := hb
              try simp only [hS, hE, ne_eq] at hb
              first | rw [if_pos hb32] at h | rw [if_neg (Bool.eq_false_iff.1 hb32)] at h | rw [if_pos hb] at h | rw [if_neg hb] at h | (simp only [hb, hT, reduceIte] at h) | skip
              refine L.Gs hb32 (S.ldN Tryd.underlying59 Y59) ?_
              refine L.Gs hb32 (S.ldN Tryd.underlying59 Y59) ?_
              replace h := Option.bind_eq_some_iff.1 h
              obtain ⟨t513, hc33, h⟩ := h
              refine L.GC hb32 (C.callE (l := true) [] Tryd.func40 (laws_vTable.ac _ _ _ _ _ _ _ _ hc33) .nil ?_)
              refine L.Gy hb32 Y.nt ?_
              refine L.Y (Y.pk (c := false) hb32) ?_
              refine L.Y Y.mv ?_
              refine L.Gc (fun hb => ?_) (fun hb => ?_)
              ·
               have hb34 := hb
               try simp only [hS, hE, ne_eq] at hb
               first | rw [if_pos hb34] at h | rw [if_neg (Bool.eq_false_iff.1 hb34)] at h | rw [if_pos hb] at h | rw [if_neg hb] at h | (simp only [hb, hT, reduceIte] at h) | skip
               exfalso
               revert h
               exact fun h => by cases k <;> simp [laws_FnTablesTurned.j2] at h
              ·
               have hb34 := hb
               try simp only [hS, hE, ne_eq] at hb
               first | rw [if_pos hb34] at h | rw [if_neg (Bool.eq_false_iff.1 hb34)] at h | rw [if_pos hb] at h | rw [if_neg hb] at h | (simp only [hb, hT, reduceIte] at h) | skip
               refine L.Gy hb34 Y.mv ?_
               refine L.Gy hb34 Y.nt ?_
               refine L.Y (Y.pk (c := false) hb34) ?_
               refine L.Y Y.mv ?_
               refine L.Gc (fun hb => ?_) (fun hb => ?_)
               ·
                have hb35 := hb
                try simp only [hS, hE, ne_eq] at hb
                first | rw [if_pos hb35] at h | rw [if_neg (Bool.eq_false_iff.1 hb35)] at h | rw [if_pos hb] at h | rw [if_neg hb] at h | (simp only [hb, hT, reduceIte] at h) | skip
                exfalso
                revert h
                exact fun h => by cases k <;> simp [laws_FnTablesTurned.j2] at h
               ·
                have hb35 := hb
                try simp only [hS, hE, ne_eq] at hb
                first | rw [if_pos hb35] at h | rw [if_neg (Bool.eq_false_iff.1 hb35)] at h | rw [if_pos hb] at h | rw [if_neg hb] at h | (simp only [hb, hT, reduceIte] at h) | skip
                refine L.Gy hb35 Y.mv ?_
                refine L.Gy hb35 Y.nt ?_
                refine L.Y (Y.pk (c := false) hb35) ?_
                refine L.Y Y.mv ?_
                refine L.Gc (fun hb => ?_) (fun hb => ?_)
                ·
                 have hb36 := hb
                 try simp only [hS, hE, ne_eq] at hb
                 first | rw [if_pos hb36] at h | rw [if_neg (Bool.eq_false_iff.1 hb36)] at h | rw [if_pos hb] at h | rw [if_neg hb] at h | (simp only [hb, hT, reduceIte] at h) | skip
                 exfalso
                 revert h
                 exact fun h => by cases k <;> simp [laws_FnTablesTurned.j2] at h
                ·
                 have hb36 := hb
                 try simp only [hS, hE, ne_eq] at hb
                 first | rw [if_pos hb36] at h | rw [if_neg (Bool.eq_false_iff.1 hb36)] at h | rw [if_pos hb] at h | rw [if_neg hb] at h | (simp only [hb, hT, reduceIte] at h) | skip
                 refine L.Gs hb36 (S.ldN Tryd.underlying59 Y59) ?_
                 refine L.Gs hb36 (S.ldN Tryd.underlying59 Y59) ?_
                 replace h := Option.bind_eq_some_iff.1 h
                 obtain ⟨t514, hc37, h⟩ := h
                 refine L.GC hb36 (C.callE (l := true) [] Tryd.func40 (laws_vTable.ac _ _ _ _ _ _ _ _ hc37) .nil ?_)
                 refine L.Gy hb36 Y.nt ?_
                 refine L.Y (Y.pk (c := false) hb36) ?_
                 refine L.Y Y.mv ?_
                 refine L.Gc (fun hb => ?_) (fun hb => ?_)
                 ·
                  have hb38 := hb
                  try simp only [hS, hE, ne_eq] at hb
                  first | rw [if_pos hb38] at h | rw [if_neg (Bool.eq_false_iff.1 hb38)] at h | rw [if_pos hb] at h | rw [if_neg hb] at h | (simp only [hb, hT, reduceIte] at h) | skip
                  exfalso
                  revert h
                  exact fun h => by cases k <;> simp [laws_FnTablesTurned.j2] at h
                 ·
                  have hb38 := hb
                  try simp only [hS, hE, ne_eq] at hb
                  first | rw [if_pos hb38] at h | rw [if_neg (Bool.eq_false_iff.1 hb38)] at h | rw [if_pos hb] at h | rw [if_neg hb] at h | (simp only [hb, hT, reduceIte] at h) | skip
                  refine L.Gy hb38 Y.mv ?_
                  refine L.Gy hb38 Y.nt ?_
                  refine L.Y (Y.pk (c := false) hb38) ?_
                  refine L.Y Y.mv ?_
                  refine L.Gc (fun hb => ?_) (fun hb => ?_)
                  ·
                   have hb39 := hb
                   try simp only [hS, hE, ne_eq] at hb
                   first | rw [if_pos hb39] at h | rw [if_neg (Bool.eq_false_iff.1 hb39)] at h | rw [if_pos hb] at h | rw [if_neg hb] at h | (simp only [hb, hT, reduceIte] at h) | skip
                   exfalso
                   revert h
                   exact fun h => by cases k <;> simp [laws_FnTablesTurned.j2] at h
                  ·
                   have hb39 := hb
                   try simp only [hS, hE, ne_eq] at hb
                   first | rw [if_pos hb39] at h | rw [if_neg (Bool.eq_false_iff.1 hb39)] at h | rw [if_pos hb] at h | rw [if_neg hb] at h | (simp only [hb, hT, reduceIte] at h) | skip
                   refine L.Gy hb39 Y.mv ?_
                   refine L.Gy hb39 Y.nt ?_
                   refine L.Y (Y.pk (c := false) hb39) ?_
                   refine L.Y Y.mv ?_
                   refine L.Gc (fun hb => ?_) (fun hb => ?_)
                   ·
                    have hb40 := hb
                    try simp only [hS, hE, ne_eq] at hb
                    first | rw [if_pos hb40] at h | rw [if_neg (Bool.eq_false_iff.1 hb40)] at h | rw [if_pos hb] at h | rw [if_neg hb] at h | (simp only [hb, hT, reduceIte] at h) | skip
                    exfalso
                    revert h
                    exact fun h => by cases k <;> simp [laws_FnTablesTurned.j2] at h
                   ·
                    have hb40 := hb
                    try simp only [hS, hE, ne_eq] at hb
                    first | rw [if_pos hb40] at h | rw [if_neg (Bool.eq_false_iff.1 hb40)] at h | rw [if_pos hb] at h | rw [if_neg hb] at h | (simp only [hb, hT, reduceIte] at h) | skip
                    refine L.Gy hb40 Y.mv ?_
                    refine L.Gy hb40 (Y.ln Tryd.underlying22) ?_
                    refine L.Gy hb40 Y.mv ?_
                    refine L.Gy hb40 (Y.ln Tryd.underlying22) ?_
                    refine L.Gy hb40 Y.bin ?_
                    refine L.Gy hb40 (Y.fa (off := 0) Tryd.underlying59 Y3) ?_
                    refine L.Gs hb40 (S.ld Tryd.underlying3) ?_
                    refine L.Gy hb40 (Y.fa (off := 1) Tryd.underlying59 Y3) ?_
                    refine L.Gs hb40 (S.ld Tryd.underlying3) ?_
                    refine L.Gy hb40 Y.bin ?_
                    refine L.Gy hb40 Y.bin ?_
                    refine L.Y (Y.pk (c := false) hb40) ?_
                    refine AList.nil ?_
                    rcases k with _ | k
                    ·
                     exact absurd h (by simp [laws_FnTablesTurned.j2])
                    simp only [laws_FnTablesTurned.j2] at h
                    refine W.cond (fun hb => ?_) (fun hb => ?_)
                    ·
                     have hb41 := hb
                     try simp only [hS, hE, ne_eq] at hb
                     first | rw [if_pos hb41] at h | rw [if_neg (Bool.eq_false_iff.1 hb41)] at h | rw [if_pos hb] at h | rw [if_neg hb] at h | (simp only [hb, hT, reduceIte] at h) | skip
                     exfalso
                     revert h
                     exact fun h => by simp at h
                    ·
                     have hb41 := hb
                     try simp only [hS, hE, ne_eq] at hb
                     first | rw [if_pos hb41] at h | rw [if_neg (Bool.eq_false_iff.1 hb41)] at h | rw [if_pos hb] at h | rw [if_neg hb] at h | (simp only [hb, hT, reduceIte] at h) | skip
                     refine AWp.skip ?_
                     refine AWp.seq ?_
                     refine W.kp [0, 1, 4, 5, 6, 7, 8, 9, 10, 11, 12, 13, 14, 15, 16, 17, 18, 19, 20, 21, 22, 23, 24, 25, 26, 27, 28, 29, 30, 43, 69, 120, 121, 204] ?_
                     refine AWp.region ?_
                     refine L.Y Y.mv ?_
                     refine L.Y (Y.ln Tryd.underlying22) ?_
                     refine L.Y Y.mv ?_
                     refine AList.nil ?_
                     refine AWp.block ?_
                     refine AWp.loopI (fun kk e H => kk ≤ k ∧ ∃ (x8 : Bool) (x29 : List Int) (x205 : List Int) (x206 : Int) (x207 : Int) (x434000 : Int) (x434001 : Int) (x434002 : List Int) (x435000 : Int) (x435001 : Int) (x435002 : List Int) (x442000 : Int) (x442001 : Int) (x442002 : List Int) (x449000 : Int) (x449001 : Int) (x449002 : List Int) (x457000 : Int) (x457001 : Int) (x457002 : List Int) (x464000 : Int) (x464001 : Int) (x464002 : List Int) (x471000 : Int) (x471001 : Int) (x471002 : List Int) (x478000 : Int) (x478001 : Int) (x478002 : List Int) (x488000 : Int) (x488001 : Int) (x488002 : List Int) (x495000 : Int) (x495001 : Int) (x495002 : List Int) (x504000 : Int) (x504001 : Int) (x504002 : List Int), e = [(1, .row 1 l1.length false (ints .u8 l1)), (5, .ptr 0 0), (6, .ptr 1 0), (7, .ptr 2 0), (8, .lit (.bool x8)), (9, .ptr 3 0), (11, .ptr 4 0), (13, .ptr 5 0), (15, .ptr 6 0), (17, .ptr 7 0), (19, .ptr 8 0), (21, .ptr 9 0), (25, .ptr 10 0), (29, .own 11 x29.length), (205, .own 12 x205.length), (206, .lit (.int .i64 x206)), (207, .lit (.int .i64 x207))] ∧ H = [.bx 59 [.lit (.int .i64 x434000), .lit (.int .i64 x434001), .own 13 x434002.length], .bx 59 [.lit (.int .i64 x435000), .lit (.int .i64 x435001), .own 14 x435002.length], .bx 59 [.lit (.int .i64 x442000), .lit (.int .i64 x442001), .own 15 x442002.length], .bx 59 [.lit (.int .i64 x449000), .lit (.int .i64 x449001), .own 16 x449002.length], .bx 59 [.lit (.int .i64 x457000), .lit (.int .i64 x457001), .own 17 x457002.length], .bx 59 [.lit (.int .i64 x464000), .lit (.int .i64 x464001), .own 18 x464002.length], .bx 59 [.lit (.int .i64 x471000), .lit (.int .i64 x471001), .own 19 x471002.length], .bx 59 [.lit (.int .i64 x478000), .lit (.int .i64 x478001), .own 20 x478002.length], .bx 59 [.lit (.int .i64 x488000), .lit (.int .i64 x488001), .own 21 x488002.length], .bx 59 [.lit (.int .i64 x495000), .lit (.int .i64 x495001), .own 22 x495002.length], .bx 59 [.lit (.int .i64 x504000), .lit (.int .i64 x504001), .own 23 x504002.length], .sl 3 1 x29.length false (ints .i64 x29), .sl 3 1 x205.length false (ints .i64 x205), .sl 3 1 x434002.length false (ints .i64 x434002), .sl 3 1 x435002.length false (ints .i64 x435002), .sl 3 1 x442002.length false (ints .i64 x442002), .sl 3 1 x449002.length false (ints .i64 x449002), .sl 3 1 x457002.length false (ints .i64 x457002), .sl 3 1 x464002.length false (ints .i64 x464002), .sl 3 1 x471002.length false (ints .i64 x471002), .sl 3 1 x478002.length false (ints .i64 x478002), .sl 3 1 x488002.length false (ints .i64 x488002), .sl 3 1 x495002.length false (ints .i64 x495002), .sl 3 1 x504002.length false (ints .i64 x504002)] ∧ laws_FnTablesTurned.l0 kk l1 x8 x29 x205 x206 x207 x434000 x434001 x434002 x435000 x435001 x435002 x442000 x442001 x442002 = some true) (k := k)
                      ⟨_, _, ⟨Nat.le_refl _, _, _, _, _, _, _, _, _, _, _, _, _, _, _, _, _, _, _, _, _, _, _, _, _, _, _, _, _, _, _, _, _, _, _, _, _, _, _, rfl, rfl, h⟩, IsPart.at [] [2, 3, 5, 7, 9, 11, 13, 15, 17, 19, 21, 23, 22, 0, 1, 4, 6, 8, 10, 12, 14, 16, 18, 20] base0 (H.c (H.c (H.c (H.c (H.c (H.c (H.c (H.c (H.c (H.c (H.c (H.c (H.c (H.c (H.c (H.c (H.c (H.c (H.c (H.c (H.c (H.c (H.c (H.c .nil)))))))))))))))))))))))) (E.c (E.c (E.c (E.c (E.c (E.c (E.c (E.c (E.c (E.c (E.c (E.c (E.c (E.c (E.c (E.c (E.c .nil)))))))))))))))))⟩ ?_
                     clear h
                     rintro k42 e H ⟨hk43, x8, x29, x205, x206, x207, x434000, x434001, x434002, x435000, x435001, x435002, x442000, x442001, x442002, x449000, x449001, x449002, x457000, x457001, x457002, x464000, x464001, x464002, x471000, x471001, x471002, x478000, x478001, x478002, x488000, x488001, x488002, x495000, x495001, x495002, x504000, x504001, x504002, rfl, rfl, h⟩
                     cases k42 with
                     | zero => exact absurd h (by simp [laws_FnTablesTurned.l0])
                     | succ k42 =>
                     simp only [laws_FnTablesTurned.l0] at h
                     refine AWp.seq ?_
                     refine AWp.region ?_
                     refine L.Y Y.bin ?_
                     refine AList.nil ?_
                     refine AWp.seq ?_
                     refine W.cond (fun hb => ?_) (fun hb => ?_)
                     ·
                      have hb44 := hb
                      try simp only [hS, hE, ne_eq] at hb
                      first | rw [if_pos hb44] at h | rw [if_neg (Bool.eq_false_iff.1 hb44)] at h | rw [if_pos hb] at h | rw [if_neg hb] at h | (simp only [hb, hT, reduceIte] at h) | skip
                      repeat (first | (rw [iN] at h; obtain ⟨_, h⟩ := h) | (rw [iP] at h; obtain ⟨_, h⟩ := h) | (simp only [bS] at h))
                      refine AWp.skip ?_
                      refine AWp.seq ?_
                      refine AWp.block ?_
                      refine AWp.seq ?_
                      refine AWp.region ?_
                      refine L.Y (Y.ixo Tryd.underlying22 Y3) ?_
                      refine L.S (S.ld Tryd.underlying3) ?_
                      refine L.Y Y.asg ?_
                      refine AList.nil ?_
                      refine AWp.seq ?_
                      refine AWp.region ?_
                      refine L.S (S.ldN Tryd.underlying59 Y59) ?_
                      refine L.Y Y.mv ?_
                      replace h := Option.bind_eq_some_iff.1 h
                      obtain ⟨t516, hc45, h⟩ := h
                      refine L.C (C.callE (l := true) [] Tryd.func49 (laws_vMarked.ac _ _ _ _ _ hc45) .nil ?_)
                      refine L.Y Y.mv ?_
                      refine L.Gc (fun hb => ?_) (fun hb => ?_)
                      ·
                       have hb46 := hb
                       try simp only [hS, hE, ne_eq] at hb
                       first | rw [if_pos hb46] at h | rw [if_neg (Bool.eq_false_iff.1 hb46)] at h | rw [if_pos hb] at h | rw [if_neg hb] at h | (simp only [hb, hT, reduceIte] at h) | skip
                       exfalso
                       revert h
                       exact fun h => by simp at h
                      ·
                       have hb46 := hb
                       try simp only [hS, hE, ne_eq] at hb
                       first | rw [if_pos hb46] at h | rw [if_neg (Bool.eq_false_iff.1 hb46)] at h | rw [if_pos hb] at h | rw [if_neg hb] at h | (simp only [hb, hT, reduceIte] at h) | skip
                       refine L.Gy hb46 Y.mv ?_
                       refine L.Gy hb46 Y.mv ?_
                       replace h := Option.bind_eq_some_iff.1 h
                       obtain ⟨t517, hc47, h⟩ := h
                       refine L.GC hb46 (C.callE (l := true) [] Tryd.func50 (laws_vHas.ac _ _ _ _ hc47) .nil ?_)
                       refine L.Y (Y.pk (c := false) hb46) ?_
                       refine AList.nil ?_
                       refine W.cond (fun hb => ?_) (fun hb => ?_)
                       ·
                        have hb48 := hb
                        try simp only [hS, hE, ne_eq] at hb
                        first | rw [if_pos hb48] at h | rw [if_neg (Bool.eq_false_iff.1 hb48)] at h | rw [if_pos hb] at h | rw [if_neg hb] at h | (simp only [hb, hT, reduceIte] at h) | skip
                        exfalso
                        revert h
                        exact fun h => by simp at h
                       ·
                        have hb48 := hb
                        try simp only [hS, hE, ne_eq] at hb
                        first | rw [if_pos hb48] at h | rw [if_neg (Bool.eq_false_iff.1 hb48)] at h | rw [if_pos hb] at h | rw [if_neg hb] at h | (simp only [hb, hT, reduceIte] at h) | skip
                        refine AWp.skip ?_
                        refine W.kp [1, 5, 6, 7, 8, 9, 11, 13, 15, 17, 19, 21, 25, 29, 32, 205, 206, 207, 208, 218] ?_
                        refine AWp.region ?_
                        refine L.Y Y.bin ?_
                        refine L.Y Y.mv ?_
                        refine AList.nil ?_
                        exact ⟨k42, by omega, _, _, ⟨by omega, _, _, _, _, _, _, _, _, _, _, _, _, _, _, _, _, _, _, _, _, _, _, _, _, _, _, _, _, _, _, _, _, _, _, _, _, _, _, rfl, rfl, h⟩, IsPart.at [] [0, 1, 2, 3, 4, 5, 6, 7, 8, 9, 10, 11, 12, 13, 14, 15, 16, 17, 18, 19, 20, 21, 22, 23] base0 (H.c (H.c (H.c (H.c (H.c (H.c (H.c (H.c (H.c (H.c (H.c (H.c (H.c (H.c (H.c (H.c (H.c (H.c (H.c (H.c (H.c (H.c (H.c (H.c .nil)))))))))))))))))))))))) (E.c (E.c (E.c (E.c (E.c (E.c (E.c (E.c (E.c (E.c (E.c (E.c (E.c (E.c (E.c (E.c (E.c .nil)))))))))))))))))⟩
                     ·
                      have hb44 := hb
                      try simp only [hS, hE, ne_eq] at hb
                      first | rw [if_pos hb44] at h | rw [if_neg (Bool.eq_false_iff.1 hb44)] at h | rw [if_pos hb] at h | rw [if_neg hb] at h | (simp only [hb, hT, reduceIte] at h) | skip
                      refine AWp.exit ?_
                      refine AWp.seq ?_
                      refine AWp.seq ?_
                      refine AWp.region ?_
                      refine L.Y Y.mv ?_
                      refine AList.nil ?_
                      rcases k42 with _ | k42
                      ·
                       exact absurd h (by simp [laws_FnTablesTurned.j4])
                      simp only [laws_FnTablesTurned.j4] at h
                      refine W.cond (fun hb => ?_) (fun hb => ?_)
                      ·
                       have hb49 := hb
                       try simp only [hS, hE, ne_eq] at hb
                       first | rw [if_pos hb49] at h | rw [if_neg (Bool.eq_false_iff.1 hb49)] at h | rw [if_pos hb] at h | rw [if_neg hb] at h | (simp only [hb, hT, reduceIte] at h) | skip
                       refine AWp.seq ?_
                       refine AWp.region ?_
                       refine L.Y Y.asg ?_
                       refine AList.nil ?_
                       refine AWp.block ?_
                       refine AWp.loopI (fun kk e H => kk ≤ k42 ∧ ∃ (x33 : Int) (x434000 : Int) (x434001 : Int) (x434002 : List Int) (x435000 : Int) (x435001 : Int) (x435002 : List Int) (x442000 : Int) (x442001 : Int) (x442002 : List Int) (x449000 : Int) (x449001 : Int) (x449002 : List Int) (x457000 : Int) (x457001 : Int) (x457002 : List Int) (x464000 : Int) (x464001 : Int) (x464002 : List Int) (x471000 : Int) (x471001 : Int) (x471002 : List Int) (x478000 : Int) (x478001 : Int) (x478002 : List Int) (x900008000 : Int) (x900008001 : Int) (x900008002 : List Int) (x900009000 : Int) (x900009001 : Int) (x900009002 : List Int) (x900010000 : Int) (x900010001 : Int) (x900010002 : List Int), e = [(1, .row 1 l1.length false (ints .u8 l1)), (5, .ptr 0 0), (6, .ptr 1 0), (7, .ptr 2 0), (9, .ptr 3 0), (11, .ptr 4 0), (13, .ptr 5 0), (15, .ptr 6 0), (17, .ptr 7 0), (19, .ptr 8 0), (21, .ptr 9 0), (25, .ptr 10 0), (33, .lit (.int .i64 x33))] ∧ H = [.bx 59 [.lit (.int .i64 x434000), .lit (.int .i64 x434001), .own 11 x434002.length], .bx 59 [.lit (.int .i64 x435000), .lit (.int .i64 x435001), .own 12 x435002.length], .bx 59 [.lit (.int .i64 x442000), .lit (.int .i64 x442001), .own 13 x442002.length], .bx 59 [.lit (.int .i64 x449000), .lit (.int .i64 x449001), .own 14 x449002.length], .bx 59 [.lit (.int .i64 x457000), .lit (.int .i64 x457001), .own 15 x457002.length], .bx 59 [.lit (.int .i64 x464000), .lit (.int .i64 x464001), .own 16 x464002.length], .bx 59 [.lit (.int .i64 x471000), .lit (.int .i64 x471001), .own 17 x471002.length], .bx 59 [.lit (.int .i64 x478000), .lit (.int .i64 x478001), .own 18 x478002.length], .bx 59 [.lit (.int .i64 x900008000), .lit (.int .i64 x900008001), .own 19 x900008002.length], .bx 59 [.lit (.int .i64 x900009000), .lit (.int .i64 x900009001), .own 20 x900009002.length], .bx 59 [.lit (.int .i64 x900010000), .lit (.int .i64 x900010001), .own 21 x900010002.length], .sl 3 1 x434002.length false (ints .i64 x434002), .sl 3 1 x435002.length false (ints .i64 x435002), .sl 3 1 x442002.length false (ints .i64 x442002), .sl 3 1 x449002.length false (ints .i64 x449002), .sl 3 1 x457002.length false (ints .i64 x457002), .sl 3 1 x464002.length false (ints .i64 x464002), .sl 3 1 x471002.length false (ints .i64 x471002), .sl 3 1 x478002.length false (ints .i64 x478002), .sl 3 1 x900008002.length false (ints .i64 x900008002), .sl 3 1 x900009002.length false (ints .i64 x900009002), .sl 3 1 x900010002.length false (ints .i64 x900010002)] ∧ laws_FnTablesTurned.l1 kk l1 x33 x434000 x434001 x434002 x435000 x435001 x435002 x442000 x442001 x442002 = some true) (k := k42)
                        ⟨_, _, ⟨Nat.le_refl _, _, _, _, _, _, _, _, _, _, _, _, _, _, _, _, _, _, _, _, _, _, _, _, _, _, _, _, _, _, _, _, _, _, _, rfl, rfl, h⟩, IsPart.at [] [0, 1, 2, 3, 4, 5, 6, 7, 8, 9, 10, 13, 14, 15, 16, 17, 18, 19, 20, 21, 22, 23] base0 (H.c (H.c (H.c (H.c (H.c (H.c (H.c (H.c (H.c (H.c (H.c (H.c (H.c (H.c (H.c (H.c (H.c (H.c (H.c (H.c (H.c (H.c .nil)))))))))))))))))))))) (E.c (E.c (E.c (E.c (E.c (E.c (E.c (E.c (E.c (E.c (E.c (E.c (E.c .nil)))))))))))))⟩ ?_
                       clear h
                       rintro k50 e H ⟨hk51, x33, x434000, x434001, x434002, x435000, x435001, x435002, x442000, x442001, x442002, x449000, x449001, x449002, x457000, x457001, x457002, x464000, x464001, x464002, x471000, x471001, x471002, x478000, x478001, x478002, x900008000, x900008001, x900008002, x900009000, x900009001, x900009002, x900010000, x900010001, x900010002, rfl, rfl, h⟩
                       cases k50 with
                       | zero => exact absurd h (by simp [laws_FnTablesTurned.l1])
                       | succ k50 =>
                       simp only [laws_FnTablesTurned.l1] at h
                       refine AWp.seq ?_
                       refine AWp.seq ?_
                       refine AWp.region ?_
                       refine L.Y Y.mv ?_
                       refine L.Y (Y.fa (off := 0) Tryd.underlying59 Y3) ?_
                       refine L.S (S.ld Tryd.underlying3) ?_
                       refine L.Y (Y.fa (off := 1) Tryd.underlying59 Y3) ?_
                       refine L.S (S.ld Tryd.underlying3) ?_
                       refine L.Y Y.bin ?_
                       refine L.Y Y.bin ?_
                       refine AList.nil ?_
                       refine W.cond (fun hb => ?_) (fun hb => ?_)
                       ·
                        have hb52 := hb
                        try simp only [hS, hE, ne_eq] at hb
                        first | rw [if_pos hb52] at h | rw [if_neg (Bool.eq_false_iff.1 hb52)] at h | rw [if_pos hb] at h | rw [if_neg hb] at h | (simp only [hb, hT, reduceIte] at h) | skip
                        refine AWp.skip ?_
                        refine AWp.seq ?_
                        refine AWp.block ?_
                        refine AWp.seq ?_
                        refine W.kp [1, 5, 6, 7, 9, 11, 13, 15, 17, 19, 21, 25, 33, 227] ?_
                        refine Dt.reg [] [] (.t 0 (.y 1 (.t 3 (.y 4 (.one 2 (.one 5 (.y 6 (.t 7 (.y 8 (.one 9 (.y 10 (.y 11 .done)))))))))))) HM ?_
                        refine Dt.T rfl wantN (D.ldN Tryd.underlying59 Y59) ?_
                        refine Dt.Y rfl wantN Y.mv ?_
                        refine Dt.T rfl wantN (D.ldN Tryd.underlying59 Y59) ?_
                        refine Dt.Y rfl wantN Y.mv ?_
                        refine Dt.O (g' := false) rfl wantN ?_
                        replace h := Option.bind_eq_some_iff.1 h
                        obtain ⟨t518, hc53, h⟩ := h
                        refine Ox.C true [] Tryd.func49 (laws_vMarked.ac _ _ _ _ _ hc53) .nil ?_
                        refine Dt.O (g' := false) rfl wantN ?_
                        replace h := Option.bind_eq_some_iff.1 h
                        obtain ⟨t519, hc54, h⟩ := h
                        refine Ox.C true [] Tryd.func49 (laws_vMarked.ac _ _ _ _ _ hc54) .nil ?_
                        refine Dt.Y rfl wantN Y.mv ?_
                        refine Dt.F 236 (fun hb => ?_) (fun hb => ?_)
                        ·
                         have hb55 := hb
                         try simp only [hS, hE, ne_eq] at hb
                         first | rw [if_pos hb55] at h | rw [if_neg (Bool.eq_false_iff.1 hb55)] at h | rw [if_pos hb] at h | rw [if_neg hb] at h | (simp only [hb, hT, reduceIte] at h) | skip
                         refine Dt.T rfl (wantY hb55) (D.ldN Tryd.underlying59 Y59) ?_
                         refine Dt.Y rfl (wantY hb55) Y.mv ?_
                         refine Dt.O (g' := false) rfl (wantY hb55) ?_
                         replace h := Option.bind_eq_some_iff.1 h
                         obtain ⟨t520, hc56, h⟩ := h
                         refine Ox.C true [] Tryd.func49 (laws_vMarked.ac _ _ _ _ _ hc56) .nil ?_
                         refine Dt.Y rfl wantN (Y.pk (c := true) hb55) ?_
                         refine Dt.Y rfl wantN (Y.bb Tryd.underlying4) ?_
                         refine Dt.nil ?_
                         refine W.cond (fun hb => ?_) (fun hb => ?_)
                         ·
                          have hb57 := hb
                          try simp only [hS, hE, ne_eq] at hb
                          first | rw [if_pos hb57] at h | rw [if_neg (Bool.eq_false_iff.1 hb57)] at h | rw [if_pos hb] at h | rw [if_neg hb] at h | (simp only [hb, hT, reduceIte] at h) | skip
                          exfalso
                          revert h
                          exact fun h => by simp at h
                         ·
                          have hb57 := hb
                          try simp only [hS, hE, ne_eq] at hb
                          first | rw [if_pos hb57] at h | rw [if_neg (Bool.eq_false_iff.1 hb57)] at h | rw [if_pos hb] at h | rw [if_neg hb] at h | (simp only [hb, hT, reduceIte] at h) | skip
                          refine AWp.skip ?_
                          refine W.kp [1, 5, 6, 7, 9, 11, 13, 15, 17, 19, 21, 25, 33, 227, 241] ?_
                          refine AWp.region ?_
                          refine L.Y Y.mv ?_
                          refine L.Y Y.bin ?_
                          refine L.Y Y.asg ?_
                          refine AList.nil ?_
                          exact ⟨k50, by omega, _, _, ⟨by omega, _, _, _, _, _, _, _, _, _, _, _, _, _, _, _, _, _, _, _, _, _, _, _, _, _, _, _, _, _, _, _, _, _, _, rfl, rfl, h⟩, IsPart.at [] [0, 1, 2, 3, 4, 5, 6, 7, 8, 9, 10, 11, 12, 13, 14, 15, 16, 17, 18, 19, 20, 21] base0 (H.c (H.c (H.c (H.c (H.c (H.c (H.c (H.c (H.c (H.c (H.c (H.c (H.c (H.c (H.c (H.c (H.c (H.c (H.c (H.c (H.c (H.c .nil)))))))))))))))))))))) (E.c (E.c (E.c (E.c (E.c (E.c (E.c (E.c (E.c (E.c (E.c (E.c (E.c .nil)))))))))))))⟩
                        ·
                         have hb55 := hb
                         try simp only [hS, hE, ne_eq] at hb
                         first | rw [if_pos hb55] at h | rw [if_neg (Bool.eq_false_iff.1 hb55)] at h | rw [if_pos hb] at h | rw [if_neg hb] at h | (simp only [hb, hT, reduceIte] at h) | skip
                         refine Dt.Nt rfl (wantZ hb55) ?_
                         refine Dt.No rfl (wantZ hb55) ?_
                         refine Dt.Po rfl (wantZ hb55) ?_
                         refine Dt.Y rfl wantN (Y.pk (c := false) hb55) ?_
                         refine Dt.Y rfl wantN (Y.bb Tryd.underlying4) ?_
                         refine Dt.nil ?_
                         refine W.cond (fun hb => ?_) (fun hb => ?_)
                         ·
                          have hb58 := hb
                          try simp only [hS, hE, ne_eq] at hb
                          first | rw [if_pos hb58] at h | rw [if_neg (Bool.eq_false_iff.1 hb58)] at h | rw [if_pos hb] at h | rw [if_neg hb] at h | (simp only [hb, hT, reduceIte] at h) | skip
                          exfalso
                          revert h
                          exact fun h => by simp at h
                         ·
                          have hb58 := hb
                          try simp only [hS, hE, ne_eq] at hb
                          first | rw [if_pos hb58] at h | rw [if_neg (Bool.eq_false_iff.1 hb58)] at h | rw [if_pos hb] at h | rw [if_neg hb] at h | (simp only [hb, hT, reduceIte] at h) | skip
                          refine AWp.skip ?_
                          refine W.kp [1, 5, 6, 7, 9, 11, 13, 15, 17, 19, 21, 25, 33, 227, 241] ?_
                          refine AWp.region ?_
                          refine L.Y Y.mv ?_
                          refine L.Y Y.bin ?_
                          refine L.Y Y.asg ?_
                          refine AList.nil ?_
                          exact ⟨k50, by omega, _, _, ⟨by omega, _, _, _, _, _, _, _, _, _, _, _, _, _, _, _, _, _, _, _, _, _, _, _, _, _, _, _, _, _, _, _, _, _, _, rfl, rfl, h⟩, IsPart.at [] [0, 1, 2, 3, 4, 5, 6, 7, 8, 9, 10, 11, 12, 13, 14, 15, 16, 17, 18, 19, 20, 21] base0 (H.c (H.c (H.c (H.c (H.c (H.c (H.c (H.c (H.c (H.c (H.c (H.c (H.c (H.c (H.c (H.c (H.c (H.c (H.c (H.c (H.c (H.c .nil)))))))))))))))))))))) (E.c (E.c (E.c (E.c (E.c (E.c (E.c (E.c (E.c (E.c (E.c (E.c (E.c .nil)))))))))))))⟩
                       ·
                        have hb52 := hb
                        try simp only [hS, hE, ne_eq] at hb
                        first | rw [if_pos hb52] at h | rw [if_neg (Bool.eq_false_iff.1 hb52)] at h | rw [if_pos hb] at h | rw [if_neg hb] at h | (simp only [hb, hT, reduceIte] at h) | skip
                        refine AWp.exit ?_
                        refine AWp.seq ?_
                        refine W.kp [1, 5, 6, 7, 9, 11, 13, 15, 17, 19, 21, 25, 33, 227] ?_
                        refine AWp.region ?_
                        refine L.Y Y.mv ?_
                        rcases k50 with _ | k50
                        ·
                         exact absurd h (by simp [laws_FnTablesTurned.j6])
                        simp only [laws_FnTablesTurned.j6] at h
                        replace h := Option.bind_eq_some_iff.1 h
                        obtain ⟨t521, hc59, h⟩ := h
                        refine L.C (C.callE (l := true) [] Tryd.func51 (spec_DrawParseTable.ac _ _ _ hc59) .nil ?_)
                        refine L.Y Y.asg ?_
                        refine AList.nil ?_
                        refine AWp.seq ?_
                        refine AWp.region ?_
                        refine L.Y Y.mv ?_
                        replace h := Option.bind_eq_some_iff.1 h
                        obtain ⟨⟨t522, t523, t524, t527⟩, hc60, h⟩ := h
                        dsimp only at h
                        refine L.C (C.callE (l := true) [] Tryd.func47 (impl_ParseTable.ac _ _ _ _ _ _ hc60) .nil ?_)
                        refine L.Y Y.mv ?_
                        refine L.Y Y.ex ?_
                        refine L.Y Y.ex ?_
                        refine L.M (M.al Y59) ?_
                        refine L.S (S.stb Y59) ?_
                        refine L.Y Y.asg ?_
                        refine AList.nil ?_
                        refine AWp.seq ?_
                        refine W.kp [1, 5, 6, 7, 9, 11, 13, 15, 17, 19, 21, 25, 33, 34, 35, 36, 227] ?_
                        refine AWp.region ?_
                        refine L.Y Y.mv ?_
                        replace h := Option.bind_eq_some_iff.1 h
                        obtain ⟨⟨t529, t530, t531, t534⟩, hc61, h⟩ := h
                        dsimp only at h
                        refine L.C (C.callE (l := true) [] Tryd.func52 (spec_ParseTable.ac _ _ _ _ _ _ hc61) .nil ?_)
                        refine L.Y Y.mv ?_
                        refine L.Y Y.ex ?_
                        refine L.Y Y.ex ?_
                        refine L.M (M.al Y59) ?_
                        refine L.S (S.stb Y59) ?_
                        refine L.Y Y.asg ?_
                        refine AList.nil ?_
                        refine AWp.seq ?_
                        refine AWp.seq ?_
                        refine W.kp [1, 5, 6, 7, 9, 11, 13, 15, 17, 19, 21, 25, 33, 34, 35, 36, 37, 38, 227] ?_
                        refine AWp.region ?_
                        refine L.Y Y.mv ?_
                        refine L.Y Y.mv ?_
                        refine L.Y (Y.bb Tryd.underlying4) ?_
                        refine L.Y Y.mv ?_
                        refine L.Gc (fun hb => ?_) (fun hb => ?_)
                        ·
                         have hb62 := hb
                         try simp only [hS, hE, ne_eq] at hb
                         first | rw [if_pos hb62] at h | rw [if_neg (Bool.eq_false_iff.1 hb62)] at h | rw [if_pos hb] at h | rw [if_neg hb] at h | (simp only [hb, hT, reduceIte] at h) | skip
                         exfalso
                         revert h
                         exact fun h => by cases k50 <;> simp [laws_FnTablesTurned.j7] at h
                        ·
                         have hb62 := hb
                         try simp only [hS, hE, ne_eq] at hb
                         first | rw [if_pos hb62] at h | rw [if_neg (Bool.eq_false_iff.1 hb62)] at h | rw [if_pos hb] at h | rw [if_neg hb] at h | (simp only [hb, hT, reduceIte] at h) | skip
                         refine L.Gs hb62 (S.ldN Tryd.underlying59 Y59) ?_
                         refine L.Gs hb62 (S.ldN Tryd.underlying59 Y59) ?_
                         replace h := Option.bind_eq_some_iff.1 h
                         obtain ⟨t536, hc63, h⟩ := h
                         refine L.GC hb62 (C.callE (l := true) [] Tryd.func40 (laws_vTable.ac _ _ _ _ _ _ _ _ hc63) .nil ?_)
                         refine L.Gy hb62 Y.nt ?_
                         refine L.Y (Y.pk (c := false) hb62) ?_
                         refine AList.nil ?_
                         rcases k50 with _ | k50
                         ·
                          exact absurd h (by simp [laws_FnTablesTurned.j7])
                         simp only [laws_FnTablesTurned.j7] at h
                         refine W.cond (fun hb => ?_) (fun hb => ?_)
                         ·
                          have hb64 := hb
                          try simp only [hS, hE, ne_eq] at hb
                          first | rw [if_pos hb64] at h | rw [if_neg (Bool.eq_false_iff.1 hb64)] at h | rw [if_pos hb] at h | rw [if_neg hb] at h | (simp only [hb, hT, reduceIte] at h) | skip
                          exfalso
                          revert h
                          exact fun h => by simp at h
                         ·
                          have hb64 := hb
                          try simp only [hS, hE, ne_eq] at hb
                          first | rw [if_pos hb64] at h | rw [if_neg (Bool.eq_false_iff.1 hb64)] at h | rw [if_pos hb] at h | rw [if_neg hb] at h | (simp only [hb, hT, reduceIte] at h) | skip
                          refine AWp.skip ?_
                          refine AWp.seq ?_
                          refine AWp.seq ?_
                          refine W.kp [1, 5, 6, 7, 9, 11, 13, 15, 17, 19, 21, 25, 33, 34, 35, 36, 37, 38, 227, 262] ?_
                          refine AWp.region ?_
                          refine L.Y Y.mv ?_
                          refine AList.nil ?_
                          refine W.cond (fun hb => ?_) (fun hb => ?_)
                          ·
                           have hb65 := hb
                           try simp only [hS, hE, ne_eq] at hb
                           first | rw [if_pos hb65] at h | rw [if_neg (Bool.eq_false_iff.1 hb65)] at h | rw [if_pos hb] at h | rw [if_neg hb] at h | (simp only [hb, hT, reduceIte] at h) | skip
                           refine AWp.seq ?_
                           refine AWp.region ?_
                           refine L.S (S.ldN Tryd.underlying59 Y59) ?_
                           replace h := Option.bind_eq_some_iff.1 h
                           obtain ⟨⟨t537, t538⟩, hc66, h⟩ := h
                           dsimp only at h
                           refine L.C (C.callE (l := true) [] Tryd.func46 (impl_TableText.ac _ _ _ _ _ _ hc66) .nil ?_)
                           refine L.Y Y.mv ?_
                           refine L.Y Y.ex ?_
                           refine L.Y Y.ex ?_
                           refine L.Y Y.asg ?_
                           refine L.Y Y.asg ?_
                           refine AList.nil ?_
                           refine AWp.seq ?_
                           refine W.kp [1, 5, 6, 7, 9, 11, 13, 15, 17, 19, 21, 25, 33, 34, 35, 36, 37, 38, 39, 40, 227, 262, 263] ?_
                           refine AWp.region ?_
                           refine L.Y Y.mv ?_
                           refine L.Y Y.mv ?_
                           refine L.Gc (fun hb => ?_) (fun hb => ?_)
                           ·
                            have hb67 := hb
                            try simp only [hS, hE, ne_eq] at hb
                            first | rw [if_pos hb67] at h | rw [if_neg (Bool.eq_false_iff.1 hb67)] at h | rw [if_pos hb] at h | rw [if_neg hb] at h | (simp only [hb, hT, reduceIte] at h) | skip
                            refine L.Gy hb67 Y.mv ?_
                            refine L.Gy hb67 Y.mv ?_
                            refine L.Gy hb67 Y.bin ?_
                            refine L.Y (Y.pk (c := true) hb67) ?_
                            refine L.Y Y.asg ?_
                            refine AList.nil ?_
                            refine AWp.ret ?_
                            first | (exfalso; cases h; done) | exact ⟨.inr rfl, [(4, _)], _, ⟨rfl, rfl⟩, IsPart.at [] [] base0 .nil (E.c .nil (hs := Sub.litE (LV h)))⟩
                           ·
                            have hb67 := hb
                            try simp only [hS, hE, ne_eq] at hb
                            first | rw [if_pos hb67] at h | rw [if_neg (Bool.eq_false_iff.1 hb67)] at h | rw [if_pos hb] at h | rw [if_neg hb] at h | (simp only [hb, hT, reduceIte] at h) | skip
                            exfalso
                            revert h
                            exact fun h => by simp at h
                          ·
                           have hb65 := hb
                           try simp only [hS, hE, ne_eq] at hb
                           first | rw [if_pos hb65] at h | rw [if_neg (Bool.eq_false_iff.1 hb65)] at h | rw [if_pos hb] at h | rw [if_neg hb] at h | (simp only [hb, hT, reduceIte] at h) | skip
                           refine AWp.skip ?_
                           refine AWp.seq ?_
                           refine AWp.region ?_
                           refine L.Y Y.asg ?_
                           refine AList.nil ?_
                           refine AWp.ret ?_
                           first | (exfalso; cases h; done) | exact ⟨.inr rfl, [(4, _)], _, ⟨rfl, rfl⟩, IsPart.at [] [] base0 .nil (E.c .nil (hs := Sub.litE (LV h)))⟩
                      ·
                       have hb49 := hb
                       try simp only [hS, hE, ne_eq] at hb
                       first | rw [if_pos hb49] at h | rw [if_neg (Bool.eq_false_iff.1 hb49)] at h | rw [if_pos hb] at h | rw [if_neg hb] at h | (simp only [hb, hT, reduceIte] at h) | skip
                       refine AWp.skip ?_
                       refine AWp.seq ?_
                       refine AWp.region ?_
                       refine L.Y Y.mv ?_
                       rcases k42 with _ | k42
                       ·
                        exact absurd h (by simp [laws_FnTablesTurned.j6])
                       simp only [laws_FnTablesTurned.j6] at h
                       replace h := Option.bind_eq_some_iff.1 h
                       obtain ⟨t521, hc68, h⟩ := h
                       refine L.C (C.callE (l := true) [] Tryd.func51 (spec_DrawParseTable.ac _ _ _ hc68) .nil ?_)
                       refine L.Y Y.asg ?_
                       refine AList.nil ?_
                       refine AWp.seq ?_
                       refine AWp.region ?_
                       refine L.Y Y.mv ?_
                       replace h := Option.bind_eq_some_iff.1 h
                       obtain ⟨⟨t522, t523, t524, t527⟩, hc69, h⟩ := h
                       dsimp only at h
                       refine L.C (C.callE (l := true) [] Tryd.func47 (impl_ParseTable.ac _ _ _ _ _ _ hc69) .nil ?_)
                       refine L.Y Y.mv ?_
                       refine L.Y Y.ex ?_
                       refine L.Y Y.ex ?_
                       refine L.M (M.al Y59) ?_
                       refine L.S (S.stb Y59) ?_
                       refine L.Y Y.asg ?_
                       refine AList.nil ?_
                       refine AWp.seq ?_
                       refine W.kp [1, 5, 6, 7, 8, 9, 11, 13, 15, 17, 19, 21, 25, 29, 34, 35, 36, 205, 206, 207, 208, 220] ?_
                       refine AWp.region ?_
                       refine L.Y Y.mv ?_
                       replace h := Option.bind_eq_some_iff.1 h
                       obtain ⟨⟨t529, t530, t531, t534⟩, hc70, h⟩ := h
                       dsimp only at h
                       refine L.C (C.callE (l := true) [] Tryd.func52 (spec_ParseTable.ac _ _ _ _ _ _ hc70) .nil ?_)
                       refine L.Y Y.mv ?_
                       refine L.Y Y.ex ?_
                       refine L.Y Y.ex ?_
                       refine L.M (M.al Y59) ?_
                       refine L.S (S.stb Y59) ?_
                       refine L.Y Y.asg ?_
                       refine AList.nil ?_
                       refine AWp.seq ?_
                       refine AWp.seq ?_
                       refine W.kp [1, 5, 6, 7, 8, 9, 11, 13, 15, 17, 19, 21, 25, 29, 34, 35, 36, 37, 38, 205, 206, 207, 208, 220] ?_
                       refine AWp.region ?_
                       refine L.Y Y.mv ?_
                       refine L.Y Y.mv ?_
                       refine L.Y (Y.bb Tryd.underlying4) ?_
                       refine L.Y Y.mv ?_
                       refine L.Gc (fun hb => ?_) (fun hb => ?_)
                       ·
                        have hb71 := hb
                        try simp only [hS, hE, ne_eq] at hb
                        first | rw [if_pos hb71] at h | rw [if_neg (Bool.eq_false_iff.1 hb71)] at h | rw [if_pos hb] at h | rw [if_neg hb] at h | (simp only [hb, hT, reduceIte] at h) | skip
                        exfalso
                        revert h
                        exact fun h => by cases k42 <;> simp [laws_FnTablesTurned.j7] at h
                       ·
                        have hb71 := hb
                        try simp only [hS, hE, ne_eq] at hb
                        first | rw [if_pos hb71] at h | rw [if_neg (Bool.eq_false_iff.1 hb71)] at h | rw [if_pos hb] at h | rw [if_neg hb] at h | (simp only [hb, hT, reduceIte] at h) | skip
                        refine L.Gs hb71 (S.ldN Tryd.underlying59 Y59) ?_
                        refine L.Gs hb71 (S.ldN Tryd.underlying59 Y59) ?_
                        replace h := Option.bind_eq_some_iff.1 h
                        obtain ⟨t536, hc72, h⟩ := h
                        refine L.GC hb71 (C.callE (l := true) [] Tryd.func40 (laws_vTable.ac _ _ _ _ _ _ _ _ hc72) .nil ?_)
                        refine L.Gy hb71 Y.nt ?_
                        refine L.Y (Y.pk (c := false) hb71) ?_
                        refine AList.nil ?_
                        rcases k42 with _ | k42
                        ·
                         exact absurd h (by simp [laws_FnTablesTurned.j7])
                        simp only [laws_FnTablesTurned.j7] at h
                        refine W.cond (fun hb => ?_) (fun hb => ?_)
                        ·
                         have hb73 := hb
                         try simp only [hS, hE, ne_eq] at hb
                         first | rw [if_pos hb73] at h | rw [if_neg (Bool.eq_false_iff.1 hb73)] at h | rw [if_pos hb] at h | rw [if_neg hb] at h | (simp only [hb, hT, reduceIte] at h) | skip
                         exfalso
                         revert h
                         exact fun h => by simp at h
                        ·
                         have hb73 := hb
                         try simp only [hS, hE, ne_eq] at hb
                         first | rw [if_pos hb73] at h | rw [if_neg (Bool.eq_false_iff.1 hb73)] at h | rw [if_pos hb] at h | rw [if_neg hb] at h | (simp only [hb, hT, reduceIte] at h) | skip
                         refine AWp.skip ?_
                         refine AWp.seq ?_
                         refine AWp.seq ?_
                         refine W.kp [1, 5, 6, 7, 8, 9, 11, 13, 15, 17, 19, 21, 25, 29, 34, 35, 36, 37, 38, 205, 206, 207, 208, 220, 262] ?_
                         refine AWp.region ?_
                         refine L.Y Y.mv ?_
                         refine AList.nil ?_
                         refine W.cond (fun hb => ?_) (fun hb => ?_)
                         ·
                          have hb74 := hb
                          try simp only [hS, hE, ne_eq] at hb
                          first | rw [if_pos hb74] at h | rw [if_neg (Bool.eq_false_iff.1 hb74)] at h | rw [if_pos hb] at h | rw [if_neg hb] at h | (simp only [hb, hT, reduceIte] at h) | skip
                          refine AWp.seq ?_
                          refine AWp.region ?_
                          refine L.S (S.ldN Tryd.underlying59 Y59) ?_
                          replace h := Option.bind_eq_some_iff.1 h
                          obtain ⟨⟨t537, t538⟩, hc75, h⟩ := h
                          dsimp only at h
                          refine L.C (C.callE (l := true) [] Tryd.func46 (impl_TableText.ac _ _ _ _ _ _ hc75) .nil ?_)
                          refine L.Y Y.mv ?_
                          refine L.Y Y.ex ?_
                          refine L.Y Y.ex ?_
                          refine L.Y Y.asg ?_
                          refine L.Y Y.asg ?_
                          refine AList.nil ?_
                          refine AWp.seq ?_
                          refine W.kp [1, 5, 6, 7, 8, 9, 11, 13, 15, 17, 19, 21, 25, 29, 34, 35, 36, 37, 38, 39, 40, 205, 206, 207, 208, 220, 262, 263] ?_
                          refine AWp.region ?_
                          refine L.Y Y.mv ?_
                          refine L.Y Y.mv ?_
                          refine L.Gc (fun hb => ?_) (fun hb => ?_)
                          ·
                           have hb76 := hb
                           try simp only [hS, hE, ne_eq] at hb
                           first | rw [if_pos hb76] at h | rw [if_neg (Bool.eq_false_iff.1 hb76)] at h | rw [if_pos hb] at h | rw [if_neg hb] at h | (simp only [hb, hT, reduceIte] at h) | skip
                           refine L.Gy hb76 Y.mv ?_
                           refine L.Gy hb76 Y.mv ?_
                           refine L.Gy hb76 Y.bin ?_
                           refine L.Y (Y.pk (c := true) hb76) ?_
                           refine L.Y Y.asg ?_
                           refine AList.nil ?_
                           refine AWp.ret ?_
                           first | (exfalso; cases h; done) | exact ⟨.inr rfl, [(4, _)], _, ⟨rfl, rfl⟩, IsPart.at [] [] base0 .nil (E.c .nil (hs := Sub.litE (LV h)))⟩
                          ·
                           have hb76 := hb
                           try simp only [hS, hE, ne_eq] at hb
                           first | rw [if_pos hb76] at h | rw [if_neg (Bool.eq_false_iff.1 hb76)] at h | rw [if_pos hb] at h | rw [if_neg hb] at h | (simp only [hb, hT, reduceIte] at h) | skip
                           exfalso
                           revert h
                           exact fun h => by simp at h
                         ·
                          have hb74 := hb
                          try simp only [hS, hE, ne_eq] at hb
                          first | rw [if_pos hb74] at h | rw [if_neg (Bool.eq_false_iff.1 hb74)] at h | rw [if_pos hb] at h | rw [if_neg hb] at h | (simp only [hb, hT, reduceIte] at h) | skip
                          refine AWp.skip ?_
                          refine AWp.seq ?_
                          refine AWp.region ?_
                          refine L.Y Y.asg ?_
                          refine AList.nil ?_
                          refine AWp.ret ?_
                          first | (exfalso; cases h; done) | exact ⟨.inr rfl, [(4, _)], _, ⟨rfl, rfl⟩, IsPart.at [] [] base0 .nil (E.c .nil (hs := Sub.litE (LV h)))⟩
          ·
           have hb22 := hb
           try simp only [hS, hE, ne_eq] at hb
           first | rw [if_pos hb22] at h | rw [if_neg (Bool.eq_false_iff.1 hb22)] at h | rw [if_pos hb] at h | rw [if_neg hb] at h | (simp only [hb, hT, reduceIte] at h) | skip
           refine AWp.skip ?_
           refine AWp.seq ?_
           refine AWp.seq ?_
           refine AWp.region ?_
           refine L.Y Y.mv ?_
           refine AList.nil ?_
           rcases k with _ | k
           ·
            exact absurd h (by simp [laws_FnTablesTurned.j4])
           simp only [laws_FnTablesTurned.j4] at h
           refine W.cond (fun hb => ?_) (fun hb => ?_)
           ·
            have hb77 := hb
            try simp only [hS, hE, ne_eq] at hb
            first | rw [if_pos hb77] at h | rw [if_neg (Bool.eq_false_iff.1 hb77)] at h | rw [if_pos hb] at h | rw [if_neg hb] at h | (simp only [hb, hT, reduceIte] at h) | skip
            refine AWp.seq ?_
            refine AWp.region ?_
            refine L.Y Y.asg ?_
            refine AList.nil ?_
            refine AWp.block ?_
            refine AWp.loopI (fun kk e H => kk ≤ k ∧ ∃ (x33 : Int) (x434000 : Int) (x434001 : Int) (x434002 : List Int) (x435000 : Int) (x435001 : Int) (x435002 : List Int) (x442000 : Int) (x442001 : Int) (x442002 : List Int) (x449000 : Int) (x449001 : Int) (x449002 : List Int) (x457000 : Int) (x457001 : Int) (x457002 : List Int) (x464000 : Int) (x464001 : Int) (x464002 : List Int) (x471000 : Int) (x471001 : Int) (x471002 : List Int) (x478000 : Int) (x478001 : Int) (x478002 : List Int), e = [(1, .row 1 l1.length false (ints .u8 l1)), (5, .ptr 0 0), (6, .ptr 1 0), (7, .ptr 2 0), (9, .ptr 3 0), (11, .ptr 4 0), (13, .ptr 5 0), (15, .ptr 6 0), (17, .ptr 7 0), (33, .lit (.int .i64 x33))] ∧ H = [.bx 59 [.lit (.int .i64 x434000), .lit (.int .i64 x434001), .own 8 x434002.length], .bx 59 [.lit (.int .i64 x435000), .lit (.int .i64 x435001), .own 9 x435002.length], .bx 59 [.lit (.int .i64 x442000), .lit (.int .i64 x442001), .own 10 x442002.length], .bx 59 [.lit (.int .i64 x449000), .lit (.int .i64 x449001), .own 11 x449002.length], .bx 59 [.lit (.int .i64 x457000), .lit (.int .i64 x457001), .own 12 x457002.length], .bx 59 [.lit (.int .i64 x464000), .lit (.int .i64 x464001), .own 13 x464002.length], .bx 59 [.lit (.int .i64 x471000), .lit (.int .i64 x471001), .own 14 x471002.length], .bx 59 [.lit (.int .i64 x478000), .lit (.int .i64 x478001), .own 15 x478002.length], .sl 3 1 x434002.length false (ints .i64 x434002), .sl 3 1 x435002.length false (ints .i64 x435002), .sl 3 1 x442002.length false (ints .i64 x442002), .sl 3 1 x449002.length false (ints .i64 x449002), .sl 3 1 x457002.length false (ints .i64 x457002), .sl 3 1 x464002.length false (ints .i64 x464002), .sl 3 1 x471002.length false (ints .i64 x471002), .sl 3 1 x478002.length false (ints .i64 x478002)] ∧ laws_FnTablesTurned.l1 kk l1 x33 x434000 x434001 x434002 x435000 x435001 x435002 x442000 x442001 x442002 = some true) (k := k)
             ⟨_, _, ⟨Nat.le_refl _, _, _, _, _, _, _, _, _, _, _, _, _, _, _, _, _, _, _, _, _, _, _, _, _, _, rfl, rfl, h⟩, IsPart.at [] [2, 3, 5, 7, 9, 11, 13, 15, 0, 1, 4, 6, 8, 10, 12, 14] base0 (H.c (H.c (H.c (H.c (H.c (H.c (H.c (H.c (H.c (H.c (H.c (H.c (H.c (H.c (H.c (H.c .nil)))))))))))))))) (E.c (E.c (E.c (E.c (E.c (E.c (E.c (E.c (E.c (E.c .nil))))))))))⟩ ?_
            clear h
            rintro k78 e H ⟨hk79, x33, x434000, x434001, x434002, x435000, x435001, x435002, x442000, x442001, x442002, x449000, x449001, x449002, x457000, x457001, x457002, x464000, x464001, x464002, x471000, x471001, x471002, x478000, x478001, x478002, rfl, rfl, h⟩
            cases k78 with
            | zero => exact absurd h (by simp [laws_FnTablesTurned.l1])
            | succ k78 =>
            simp only [laws_FnTablesTurned.l1] at h
            refine AWp.seq ?_
            refine AWp.seq ?_
            refine AWp.region ?_
            refine L.Y Y.mv ?_
            refine L.Y (Y.fa (off := 0) Tryd.underlying59 Y3) ?_
            refine L.S (S.ld Tryd.underlying3) ?_
            refine L.Y (Y.fa (off := 1) Tryd.underlying59 Y3) ?_
            refine L.S (S.ld Tryd.underlying3) ?_
            refine L.Y Y.bin ?_
            refine L.Y Y.bin ?_
            refine AList.nil ?_
            refine W.cond (fun hb => ?_) (fun hb => ?_)
            ·
             have hb80 := hb
             try simp only [hS, hE, ne_eq] at hb
             first | rw [if_pos hb80] at h | rw [if_neg (Bool.eq_false_iff.1 hb80)] at h | rw [if_pos hb] at h | rw [if_neg hb] at h | (simp only [hb, hT, reduceIte] at h) | skip
             refine AWp.skip ?_
             refine AWp.seq ?_
             refine AWp.block ?_
             refine AWp.seq ?_
             refine W.kp [1, 5, 6, 7, 9, 11, 13, 15, 17, 33, 227] ?_
             refine Dt.reg [] [] (.t 0 (.y 1 (.t 3 (.y 4 (.one 2 (.one 5 (.y 6 (.t 7 (.y 8 (.one 9 (.y 10 (.y 11 .done)))))))))))) HM ?_
             refine Dt.T rfl wantN (D.ldN Tryd.underlying59 Y59) ?_
             refine Dt.Y rfl wantN Y.mv ?_
             refine Dt.T rfl wantN (D.ldN Tryd.underlying59 Y59) ?_
             refine Dt.Y rfl wantN Y.mv ?_
             refine Dt.O (g' := false) rfl wantN ?_
             replace h := Option.bind_eq_some_iff.1 h
             obtain ⟨t518, hc81, h⟩ := h
             refine Ox.C true [] Tryd.func49 (laws_vMarked.ac _ _ _ _ _ hc81) .nil ?_
             refine Dt.O (g' := false) rfl wantN ?_
             replace h := Option.bind_eq_some_iff.1 h
             obtain ⟨t519, hc82, h⟩ := h
             refine Ox.C true [] Tryd.func49 (laws_vMarked.ac _ _ _ _ _ hc82) .nil ?_
             refine Dt.Y rfl wantN Y.mv ?_
             refine Dt.F 236 (fun hb => ?_) (fun hb => ?_)
             ·
              have hb83 := hb
              try simp only [hS, hE, ne_eq] at hb
              first | rw [if_pos hb83] at h | rw [if_neg (Bool.eq_false_iff.1 hb83)] at h | rw [if_pos hb] at h | rw [if_neg hb] at h | (simp only [hb, hT, reduceIte] at h) | skip
              refine Dt.T rfl (wantY hb83) (D.ldN Tryd.underlying59 Y59) ?_
              refine Dt.Y rfl (wantY hb83) Y.mv ?_
              refine Dt.O (g' := false) rfl (wantY hb83) ?_
              replace h := Option.bind_eq_some_iff.1 h
              obtain ⟨t520, hc84, h⟩ := h
              refine Ox.C true [] Tryd.func49 (laws_vMarked.ac _ _ _ _ _ hc84) .nil ?_
              refine Dt.Y rfl wantN (Y.pk (c := true) hb83) ?_
              refine Dt.Y rfl wantN (Y.bb Tryd.underlying4) ?_
              refine Dt.nil ?_
              refine W.cond (fun hb => ?_) (fun hb => ?_)
              ·
               have hb85 := hb
               try simp only [hS, hE, ne_eq] at hb
               first | rw [if_pos hb85] at h | rw [if_neg (Bool.eq_false_iff.1 hb85)] at h | rw [if_pos hb] at h | rw [if_neg hb] at h | (simp only [hb, hT, reduceIte] at h) | skip
               exfalso
               revert h
               exact fun h => by simp at h
              ·
               have hb85 := hb
               try simp only [hS, hE, ne_eq] at hb
               first | rw [if_pos hb85] at h | rw [if_neg (Bool.eq_false_iff.1 hb85)] at h | rw [if_pos hb] at h | rw [if_neg hb] at h | (simp only [hb, hT, reduceIte] at h) | skip
               refine AWp.skip ?_
               refine W.kp [1, 5, 6, 7, 9, 11, 13, 15, 17, 33, 227, 241] ?_
               refine AWp.region ?_
               refine L.Y Y.mv ?_
               refine L.Y Y.bin ?_
               refine L.Y Y.asg ?_
               refine AList.nil ?_
               exact ⟨k78, by omega, _, _, ⟨by omega, _, _, _, _, _, _, _, _, _, _, _, _, _, _, _, _, _, _, _, _, _, _, _, _, _, rfl, rfl, h⟩, IsPart.at [] [0, 1, 2, 3, 4, 5, 6, 7, 8, 9, 10, 11, 12, 13, 14, 15] base0 (H.c (H.c (H.c (H.c (H.c (H.c (H.c (H.c (H.c (H.c (H.c (H.c (H.c (H.c (H.c (H.c .nil)))))))))))))))) (E.c (E.c (E.c (E.c (E.c (E.c (E.c (E.c (E.c (E.c .nil))))))))))⟩
             ·
              have hb83 := hb
              try simp only [hS, hE, ne_eq] at hb
              first | rw [if_pos hb83] at h | rw [if_neg (Bool.eq_false_iff.1 hb83)] at h | rw [if_pos hb] at h | rw [if_neg hb] at h | (simp only [hb, hT, reduceIte] at h) | skip
              refine Dt.Nt rfl (wantZ hb83) ?_
              refine Dt.No rfl (wantZ hb83) ?_
              refine Dt.Po rfl (wantZ hb83) ?_
              refine Dt.Y rfl wantN (Y.pk (c := false) hb83) ?_
              refine Dt.Y rfl wantN (Y.bb Tryd.underlying4) ?_
              refine Dt.nil ?_
              refine W.cond (fun hb => ?_) (fun hb => ?_)
              ·
               have hb86 := hb
               try simp only [hS, hE, ne_eq] at hb
               first | rw [if_pos hb86] at h | rw [if_neg (Bool.eq_false_iff.1 hb86)] at h | rw [if_pos hb] at h | rw [if_neg hb] at h | (simp only [hb, hT, reduceIte] at h) | skip
               exfalso
               revert h
               exact fun h => by simp at h
              ·
               have hb86 := hb
               try simp only [hS, hE, ne_eq] at hb
               first | rw [if_pos hb86] at h | rw [if_neg (Bool.eq_false_iff.1 hb86)] at h | rw [if_pos hb] at h | rw [if_neg hb] at h | (simp only [hb, hT, reduceIte] at h) | skip
               refine AWp.skip ?_
               refine W.kp [1, 5, 6, 7, 9, 11, 13, 15, 17, 33, 227, 241] ?_
               refine AWp.region ?_
               refine L.Y Y.mv ?_
               refine L.Y Y.bin ?_
               refine L.Y Y.asg ?_
               refine AList.nil ?_
               exact ⟨k78, by omega, _, _, ⟨by omega, _, _, _, _, _, _, _, _, _, _, _, _, _, _, _, _, _, _, _, _, _, _, _, _, _, rfl, rfl, h⟩, IsPart.at [] [0, 1, 2, 3, 4, 5, 6, 7, 8, 9, 10, 11, 12, 13, 14, 15] base0 (H.c (H.c (H.c (H.c (H.c (H.c (H.c (H.c (H.c (H.c (H.c (H.c (H.c (H.c (H.c (H.c .nil)))))))))))))))) (E.c (E.c (E.c (E.c (E.c (E.c (E.c (E.c (E.c (E.c .nil))))))))))⟩
            ·
             have hb80 := hb
             try simp only [hS, hE, ne_eq] at hb
             first | rw [if_pos hb80] at h | rw [if_neg (Bool.eq_false_iff.1 hb80)] at h | rw [if_pos hb] at h | rw [if_neg hb] at h | (simp only [hb, hT, reduceIte] at h) | skip
             refine AWp.exit ?_
             refine AWp.seq ?_
             refine W.kp [1, 5, 6, 7, 9, 11, 13, 15, 17, 33, 227] ?_
             refine AWp.region ?_
             refine L.Y Y.mv ?_
             rcases k78 with _ | k78
             ·
              exact absurd h (by simp [laws_FnTablesTurned.j6])
             simp only [laws_FnTablesTurned.j6] at h
             replace h := Option.bind_eq_some_iff.1 h
             obtain ⟨t521, hc87, h⟩ := h
             refine L.C (C.callE (l := true) [] Tryd.func51 (spec_DrawParseTable.ac _ _ _ hc87) .nil ?_)
             refine L.Y Y.asg ?_
             refine AList.nil ?_
             refine AWp.seq ?_
             refine AWp.region ?_
             refine L.Y Y.mv ?_
             replace h := Option.bind_eq_some_iff.1 h
             obtain ⟨⟨t522, t523, t524, t527⟩, hc88, h⟩ := h
             dsimp only at h
             refine L.C (C.callE (l := true) [] Tryd.func47 (impl_ParseTable.ac _ _ _ _ _ _ hc88) .nil ?_)
             refine L.Y Y.mv ?_
             refine L.Y Y.ex ?_
             refine L.Y Y.ex ?_
             refine L.M (M.al Y59) ?_
             refine L.S (S.stb Y59) ?_
             refine L.Y Y.asg ?_
             refine AList.nil ?_
             refine AWp.seq ?_
             refine W.kp [1, 5, 6, 7, 9, 11, 13, 15, 17, 33, 34, 35, 36, 227] ?_
             refine AWp.region ?_
             refine L.Y Y.mv ?_
             replace h := Option.bind_eq_some_iff.1 h
             obtain ⟨⟨t529, t530, t531, t534⟩, hc89, h⟩ := h
             dsimp only at h
             refine L.C (C.callE (l := true) [] Tryd.func52 (spec_ParseTable.ac _ _ _ _ _ _ hc89) .nil ?_)
             refine L.Y Y.mv ?_
             refine L.Y Y.ex ?_
             refine L.Y Y.ex ?_
             refine L.M (M.al Y59) ?_
             refine L.S (S.stb Y59) ?_
             refine L.Y Y.asg ?_
             refine AList.nil ?_
             refine AWp.seq ?_
             refine AWp.seq ?_
             refine W.kp [1, 5, 6, 7, 9, 11, 13, 15, 17, 33, 34, 35, 36, 37, 38, 227] ?_
             refine AWp.region ?_
             refine L.Y Y.mv ?_
             refine L.Y Y.mv ?_
             refine L.Y (Y.bb Tryd.underlying4) ?_
             refine L.Y Y.mv ?_
             refine L.Gc (fun hb => ?_) (fun hb => ?_)
             ·
              have hb90 := hb
              try simp only [hS, hE, ne_eq] at hb
              first | rw [if_pos hb90] at h | rw [if_neg (Bool.eq_false_iff.1 hb90)] at h | rw [if_pos hb] at h | rw [if_neg hb] at h | (simp only [hb, hT, reduceIte] at h) | skip
              exfalso
              revert h
              exact fun h => by cases k78 <;> simp [laws_FnTablesTurned.j7] at h
             ·
              have hb90 := hb
              try simp only [hS, hE, ne_eq] at hb
              first | rw [if_pos hb90] at h | rw [if_neg (Bool.eq_false_iff.1 hb90)] at h | rw [if_pos hb] at h | rw [if_neg hb] at h | (simp only [hb, hT, reduceIte] at h) | skip
              refine L.Gs hb90 (S.ldN Tryd.underlying59 Y59) ?_
              refine L.Gs hb90 (S.ldN Tryd.underlying59 Y59) ?_
              replace h := Option.bind_eq_some_iff.1 h
              obtain ⟨t536, hc91, h⟩ := h
              refine L.GC hb90 (C.callE (l := true) [] Tryd.func40 (laws_vTable.ac _ _ _ _ _ _ _ _ hc91) .nil ?_)
              refine L.Gy hb90 Y.nt ?_
              refine L.Y (Y.pk (c := false) hb90) ?_
              refine AList.nil ?_
              rcases k78 with _ | k78
              ·
               exact absurd h (by simp [laws_FnTablesTurned.j7])
              simp only [laws_FnTablesTurned.j7] at h
              refine W.cond (fun hb => ?_) (fun hb => ?_)
              ·
               have hb92 := hb
               try simp only [hS, hE, ne_eq] at hb
               first | rw [if_pos hb92] at h | rw [if_neg (Bool.eq_false_iff.1 hb92)] at h | rw [if_pos hb] at h | rw [if_neg hb] at h | (simp only [hb, hT, reduceIte] at h) | skip
               exfalso
               revert h
               exact fun h => by simp at h
              ·
               have hb92 := hb
               try simp only [hS, hE, ne_eq] at hb
               first | rw [if_pos hb92] at h | rw [if_neg (Bool.eq_false_iff.1 hb92)] at h | rw [if_pos hb] at h | rw [if_neg hb] at h | (simp only [hb, hT, reduceIte] at h) | skip
               refine AWp.skip ?_
               refine AWp.seq ?_
               refine AWp.seq ?_
               refine W.kp [1, 5, 6, 7, 9, 11, 13, 15, 17, 33, 34, 35, 36, 37, 38, 227, 262] ?_
               refine AWp.region ?_
               refine L.Y Y.mv ?_
               refine AList.nil ?_
               refine W.cond (fun hb => ?_) (fun hb => ?_)
               ·
                have hb93 := hb
                try simp only [hS, hE, ne_eq] at hb
                first | rw [if_pos hb93] at h | rw [if_neg (Bool.eq_false_iff.1 hb93)] at h | rw [if_pos hb] at h | rw [if_neg hb] at h | (simp only [hb, hT, reduceIte] at h) | skip
                refine AWp.seq ?_
                refine AWp.region ?_
                refine L.S (S.ldN Tryd.underlying59 Y59) ?_
                replace h := Option.bind_eq_some_iff.1 h
                obtain ⟨⟨t537, t538⟩, hc94, h⟩ := h
                dsimp only at h
                refine L.C (C.callE (l := true) [] Tryd.func46 (impl_TableText.ac _ _ _ _ _ _ hc94) .nil ?_)
                refine L.Y Y.mv ?_
                refine L.Y Y.ex ?_
                refine L.Y Y.ex ?_
                refine L.Y Y.asg ?_
                refine L.Y Y.asg ?_
                refine AList.nil ?_
                refine AWp.seq ?_
                refine W.kp [1, 5, 6, 7, 9, 11, 13, 15, 17, 33, 34, 35, 36, 37, 38, 39, 40, 227, 262, 263] ?_
                refine AWp.region ?_
                refine L.Y Y.mv ?_
                refine L.Y Y.mv ?_
                refine L.Gc (fun hb => ?_) (fun hb => ?_)
                ·
                 have hb95 := hb
                 try simp only [hS, hE, ne_eq] at hb
                 first | rw [if_pos hb95] at h | rw [if_neg (Bool.eq_false_iff.1 hb95)] at h | rw [if_pos hb] at h | rw [if_neg hb] at h | (simp only [hb, hT, reduceIte] at h) | skip
                 refine L.Gy hb95 Y.mv ?_
                 refine L.Gy hb95 Y.mv ?_
                 refine L.Gy hb95 Y.bin ?_
                 refine L.Y (Y.pk (c := true) hb95) ?_
                 refine L.Y Y.asg ?_
                 refine AList.nil ?_
                 refine AWp.ret ?_
                 first | (exfalso; cases h; done) | exact ⟨.inr rfl, [(4, _)], _, ⟨rfl, rfl⟩, IsPart.at [] [] base0 .nil (E.c .nil (hs := Sub.litE (LV h)))⟩
                ·
                 have hb95 := hb
                 try simp only [hS, hE, ne_eq] at hb
                 first | rw [if_pos hb95] at h | rw [if_neg (Bool.eq_false_iff.1 hb95)] at h | rw [if_pos hb] at h | rw [if_neg hb] at h | (simp only [hb, hT, reduceIte] at h) | skip
                 exfalso
                 revert h
                 exact fun h => by simp at h
               ·
                have hb93 := hb
                try simp only [hS, hE, ne_eq] at hb
                first | rw [if_pos hb93] at h | rw [if_neg (Bool.eq_false_iff.1 hb93)] at h | rw [if_pos hb] at h | rw [if_neg hb] at h | (simp only [hb, hT, reduceIte] at h) | skip
                refine AWp.skip ?_
                refine AWp.seq ?_
                refine AWp.region ?_
                refine L.Y Y.asg ?_
                refine AList.nil ?_
                refine AWp.ret ?_
                first | (exfalso; cases h; done) | exact ⟨.inr rfl, [(4, _)], _, ⟨rfl, rfl⟩, IsPart.at [] [] base0 .nil (E.c .nil (hs := Sub.litE (LV h)))⟩
           ·
            have hb77 := hb
            try simp only [hS, hE, ne_eq] at hb
            first | rw [if_pos hb77] at h | rw [if_neg (Bool.eq_false_iff.1 hb77)] at h | rw [if_pos hb] at h | rw [if_neg hb] at h | (simp only [hb, hT, reduceIte] at h) | skip
            refine AWp.skip ?_
            refine AWp.seq ?_
            refine AWp.region ?_
            refine L.Y Y.mv ?_
            rcases k with _ | k
            ·
             exact absurd h (by simp [laws_FnTablesTurned.j6])
            simp only [laws_FnTablesTurned.j6] at h
            replace h := Option.bind_eq_some_iff.1 h
            obtain ⟨t521, hc96, h⟩ := h
            refine L.C (C.callE (l := true) [] Tryd.func51 (spec_DrawParseTable.ac _ _ _ hc96) .nil ?_)
            refine L.Y Y.asg ?_
            refine AList.nil ?_
            refine AWp.seq ?_
            refine AWp.region ?_
            refine L.Y Y.mv ?_
            replace h := Option.bind_eq_some_iff.1 h
            obtain ⟨⟨t522, t523, t524, t527⟩, hc97, h⟩ := h
            dsimp only at h
            refine L.C (C.callE (l := true) [] Tryd.func47 (impl_ParseTable.ac _ _ _ _ _ _ hc97) .nil ?_)
            refine L.Y Y.mv ?_
            refine L.Y Y.ex ?_
            refine L.Y Y.ex ?_
            refine L.M (M.al Y59) ?_
            refine L.S (S.stb Y59) ?_
            refine L.Y Y.asg ?_
            refine AList.nil ?_
            refine AWp.seq ?_
            refine W.kp [0, 1, 4, 5, 6, 7, 8, 9, 10, 11, 12, 13, 14, 15, 16, 17, 18, 34, 35, 36, 43, 69, 120, 121, 220] ?_
            refine AWp.region ?_
            refine L.Y Y.mv ?_
            replace h := Option.bind_eq_some_iff.1 h
            obtain ⟨⟨t529, t530, t531, t534⟩, hc98, h⟩ := h
            dsimp only at h
            refine L.C (C.callE (l := true) [] Tryd.func52 (spec_ParseTable.ac _ _ _ _ _ _ hc98) .nil ?_)
            refine L.Y Y.mv ?_
            refine L.Y Y.ex ?_
            refine L.Y Y.ex ?_
            refine L.M (M.al Y59) ?_
            refine L.S (S.stb Y59) ?_
            refine L.Y Y.asg ?_
            refine AList.nil ?_
            refine AWp.seq ?_
            refine AWp.seq ?_
            refine W.kp [0, 1, 4, 5, 6, 7, 8, 9, 10, 11, 12, 13, 14, 15, 16, 17, 18, 34, 35, 36, 37, 38, 43, 69, 120, 121, 220] ?_
            refine AWp.region ?_
            refine L.Y Y.mv ?_
            refine L.Y Y.mv ?_
            refine L.Y (Y.bb Tryd.underlying4) ?_
            refine L.Y Y.mv ?_
            refine L.Gc (fun hb => ?_) (fun hb => ?_)
            ·
             have hb99 := hb
             try simp only [hS, hE, ne_eq] at hb
             first | rw [if_pos hb99] at h | rw [if_neg (Bool.eq_false_iff.1 hb99)] at h | rw [if_pos hb] at h | rw [if_neg hb] at h | (simp only [hb, hT, reduceIte] at h) | skip
             exfalso
             revert h
             exact fun h => by cases k <;> simp [laws_FnTablesTurned.j7] at h
            ·
             have hb99 := hb
             try simp only [hS, hE, ne_eq] at hb
             first | rw [if_pos hb99] at h | rw [if_neg (Bool.eq_false_iff.1 hb99)] at h | rw [if_pos hb] at h | rw [if_neg hb] at h | (simp only [hb, hT, reduceIte] at h) | skip
             refine L.Gs hb99 (S.ldN Tryd.underlying59 Y59) ?_
             refine L.Gs hb99 (S.ldN Tryd.underlying59 Y59) ?_
             replace h := Option.bind_eq_some_iff.1 h
             obtain ⟨t536, hc100, h⟩ := h
             refine L.GC hb99 (C.callE (l := true) [] Tryd.func40 (laws_vTable.ac _ _ _ _ _ _ _ _ hc100) .nil ?_)
             refine L.Gy hb99 Y.nt ?_
             refine L.Y (Y.pk (c := false) hb99) ?_
             refine AList.nil ?_
             rcases k with _ | k
             ·
              exact absurd h (by simp [laws_FnTablesTurned.j7])
             simp only [laws_FnTablesTurned.j7] at h
             refine W.cond (fun hb => ?_) (fun hb => ?_)
             ·
              have hb101 := hb
              try simp only [hS, hE, ne_eq] at hb
              first | rw [if_pos hb101] at h | rw [if_neg (Bool.eq_false_iff.1 hb101)] at h | rw [if_pos hb] at h | rw [if_neg hb] at h | (simp only [hb, hT, reduceIte] at h) | skip
              exfalso
              revert h
              exact fun h => by simp at h
             ·
              have hb101 := hb
              try simp only [hS, hE, ne_eq] at hb
              first | rw [if_pos hb101] at h | rw [if_neg (Bool.eq_false_iff.1 hb101)] at h | rw [if_pos hb] at h | rw [if_neg hb] at h | (simp only [hb, hT, reduceIte] at h) | skip
              refine AWp.skip ?_
              refine AWp.seq ?_
              refine AWp.seq ?_
              refine W.kp [0, 1, 4, 5, 6, 7, 8, 9, 10, 11, 12, 13, 14, 15, 16, 17, 18, 34, 35, 36, 37, 38, 43, 69, 120, 121, 220, 262] ?_
              refine AWp.region ?_
              refine L.Y Y.mv ?_
              refine AList.nil ?_
              refine W.cond (fun hb => ?_) (fun hb => ?_)
              ·
               have hb102 := hb
               try simp only [hS, hE, ne_eq] at hb
               first | rw [if_pos hb102] at h | rw [if_neg (Bool.eq_false_iff.1 hb102)] at h | rw [if_pos hb] at h | rw [if_neg hb] at h | (simp only [hb, hT, reduceIte] at h) | skip
               refine AWp.seq ?_
               refine AWp.region ?_
               refine L.S (S.ldN Tryd.underlying59 Y59) ?_
               replace h := Option.bind_eq_some_iff.1 h
               obtain ⟨⟨t537, t538⟩, hc103, h⟩ := h
               dsimp only at h
               refine L.C (C.callE (l := true) [] Tryd.func46 (impl_TableText.ac _ _ _ _ _ _ hc103) .nil ?_)
               refine L.Y Y.mv ?_
               refine L.Y Y.ex ?_
               refine L.Y Y.ex ?_
               refine L.Y Y.asg ?_
               refine L.Y Y.asg ?_
               refine AList.nil ?_
               refine AWp.seq ?_
               refine W.kp [0, 1, 4, 5, 6, 7, 8, 9, 10, 11, 12, 13, 14, 15, 16, 17, 18, 34, 35, 36, 37, 38, 39, 40, 43, 69, 120, 121, 220, 262, 263] ?_
               refine AWp.region ?_
               refine L.Y Y.mv ?_
               refine L.Y Y.mv ?_
               refine L.Gc (fun hb => ?_) (fun hb => ?_)
               ·
                have hb104 := hb
                try simp only [hS, hE, ne_eq] at hb
                first | rw [if_pos hb104] at h | rw [if_neg (Bool.eq_false_iff.1 hb104)] at h | rw [if_pos hb] at h | rw [if_neg hb] at h | (simp only [hb, hT, reduceIte] at h) | skip
                refine L.Gy hb104 Y.mv ?_
                refine L.Gy hb104 Y.mv ?_
                refine L.Gy hb104 Y.bin ?_
                refine L.Y (Y.pk (c := true) hb104) ?_
                refine L.Y Y.asg ?_
                refine AList.nil ?_
                refine AWp.ret ?_
                first | (exfalso; cases h; done) | exact ⟨.inr rfl, [(4, _)], _, ⟨rfl, rfl⟩, IsPart.at [] [] base0 .nil (E.c .nil (hs := Sub.litE (LV h)))⟩
               ·
                have hb104 := hb
                try simp only [hS, hE, ne_eq] at hb
                first | rw [if_pos hb104] at h | rw [if_neg (Bool.eq_false_iff.1 hb104)] at h | rw [if_pos hb] at h | rw [if_neg hb] at h | (simp only [hb, hT, reduceIte] at h) | skip
                exfalso
                revert h
                exact fun h => by simp at h
              ·
               have hb102 := hb
               try simp only [hS, hE, ne_eq] at hb
               first | rw [if_pos hb102] at h | rw [if_neg (Bool.eq_false_iff.1 hb102)] at h | rw [if_pos hb] at h | rw [if_neg hb] at h | (simp only [hb, hT, reduceIte] at h) | skip
               refine AWp.skip ?_
               refine AWp.seq ?_
               refine AWp.region ?_
               refine L.Y Y.asg ?_
               refine AList.nil ?_
               refine AWp.ret ?_
               first | (exfalso; cases h; done) | exact ⟨.inr rfl, [(4, _)], _, ⟨rfl, rfl⟩, IsPart.at [] [] base0 .nil (E.c .nil (hs := Sub.litE (LV h)))⟩

/-- THE ONE PURE STATEMENT of laws_FnTablesTurned: yours. -/
def laws_FnTablesTurned.Pure : Prop := ∀ (l0 : List Int) (l1 : List Int), l0.length ≤ maxLen → l0.length * 1 ≤ 140737488351232 → (∀ x ∈ l0, (Lit.int .u8 x).wf = true) → l1.length ≤ maxLen → l1.length * 1 ≤ 140737488351232 → (∀ x ∈ l1, (Lit.int .u8 x).wf = true) → ∃ k, laws_FnTablesTurned.f k l0 l1 = some true
theorem laws_FnTablesTurned.walk (P : laws_FnTablesTurned.Pure) (a0 : Option Addr) (len0 cap0 : Nat) (z0 : List Int) (a1 : Option Addr) (len1 cap1 : Nat) (z1 : List Int) (w : World) (hT : TabIn w) (w0 : (a0 = none ∧ len0 = 0 ∧ cap0 = 0 ∧ z0 = []) ∨ ∃ x, a0 = some x ∧ len0 ≤ cap0 ∧ cap0 ≤ maxLen ∧ z0.length = cap0 ∧ (∀ i, i < z0.length → w.cell? (x.add i) = some (.int .u8 (z0.getD i 0))) ∧ ∀ n ∈ z0, (Lit.int .u8 n).wf = true) (y0 : len0 * 1 ≤ 140737488351232) (w1 : (a1 = none ∧ len1 = 0 ∧ cap1 = 0 ∧ z1 = []) ∨ ∃ x, a1 = some x ∧ len1 ≤ cap1 ∧ cap1 ≤ maxLen ∧ z1.length = cap1 ∧ (∀ i, i < z1.length → w.cell? (x.add i) = some (.int .u8 (z1.getD i 0))) ∧ ∀ n ∈ z1, (Lit.int .u8 n).wf = true) (y1 : len1 * 1 ≤ 140737488351232) :
  Calls Tryd.prog 6 #[.slice a0 len0 cap0, .slice a1 len1 cap1] w fun e w' => e = .returned (.bool true) ∧ Below w.heap.size w w' := by
 obtain ⟨hl0, hv0⟩ := VR.came (A0 := fun _ => .bool false) (H := []) w0
 obtain ⟨hm0, hw0⟩ := came_fits w0
 have y0' := y0
 rw [← hl0] at y0'
 obtain ⟨hl1, hv1⟩ := VR.came (A0 := fun _ => .bool false) (H := []) w1
 obtain ⟨hm1, hw1⟩ := came_fits w1
 have y1' := y1
 rw [← hl1] at y1'
 obtain ⟨k, h⟩ := P (z0.take len0) (z1.take len1) hm0 y0' hw0 hm1 y1' hw1
 refine ACalls.law (vs := [.slice a0 len0 cap0, .slice a1 len1 cap1]) (tabP_of hT) (laws_FnTablesTurned.ac k (z0.take len0) (z1.take len1) h) ?_
 repeat' first | assumption | exact VRs_nil | exact VR_lit | refine VRs_cons ?_ ?_ | refine VR_agg ?_

end Go.Proofs.YtakabmokpknknaaDoor.PFnTablesTurned
