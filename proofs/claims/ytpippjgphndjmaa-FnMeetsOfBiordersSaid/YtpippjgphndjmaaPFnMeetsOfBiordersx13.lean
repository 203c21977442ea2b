-- Written by a program of this session's (wip/myprint2): the functions by the kit's print, the walks by awgen.py. Lean checks it.
import Derived.Test.YtpippjgphndjmaaPFnMeetsOfBiordersx0
import Derived.Test.YtpippjgphndjmaaPFnMeetsOfBiordersx3
import Derived.Test.YtpippjgphndjmaaPFnMeetsOfBiordersx5
import Derived.Test.YtpippjgphndjmaaPFnMeetsOfBiordersx6
import Derived.Test.YtpippjgphndjmaaPFnMeetsOfBiordersx7
import Derived.Test.YtpippjgphndjmaaPFnMeetsOfBiordersx8
import Derived.Test.YtpippjgphndjmaaPFnMeetsOfBiordersx9
import Derived.Test.YtpippjgphndjmaaPFnMeetsOfBiordersx12
namespace Go.Proofs.Ytpippjgphndjmaa.PFnMeetsOfBiorders
open Go.RowKit Go.Proofs.YtpippjgphndjmaaW.PrintWords Go.Proofs.YtpippjgphndjmaaW.PrintLast Go.Proofs.YtpippjgphndjmaaW.PrintMore Go.Proofs.YtpippjgphndjmaaM Go.Proofs.YtpippjgphndjmaaA
attribute [local go_sem] max2_int min2_int max_two min_two max_three min_three max_four min_four   -- for this text's walks alone
set_option linter.unusedVariables false
set_option linter.unusedSimpArgs false

/-! ### laws_FnMeetsOfBiorders: function 7 -/
mutual
def laws_FnMeetsOfBiorders.j0 : Nat → List Int → List (S28) → Bool → List (S28) → Int → Bool → Int → Int → List Int → Option (Bool)
 | 0, _, _, _, _, _, _, _, _, _ => none
 | k + 1, x1, x6, x7, x8, x10, x92, x482000, x482001, x482002 => if x92 = true then (some false) else (if x7 = true then (if 0 < (x6.length : Int) then (laws_FnMeetsOfBiorders.l0 k x1 x6 x8 x10 x6 (x6.length : Int) 0 x482000 x482001 x482002 ((Enc.rd x6 0).f0) ((Enc.rd x6 0).f1) ((Enc.rd x6 0).f2)) else (none)) else (laws_FnMeetsOfBiorders.j3 k x1))
def laws_FnMeetsOfBiorders.j3 : Nat → List Int → Option (Bool)
 | 0, _ => none
 | k + 1, x1 => (spec_DrawSplitCells.f k x1).bind fun bt524 => ((impl_SplitCells.f k bt524.1 bt524.2.1 bt524.2.2.1 bt524.2.2.2).bind fun bt531 => ((spec_SplitCells.f k bt524.1 bt524.2.1 bt524.2.2.1 bt524.2.2.2).bind fun bt535 => (if (bt531.2 != bt535.2) = true then (laws_FnMeetsOfBiorders.j4 k bt524.2.2.2 bt531.1 bt531.2 true bt524.1 bt524.2.1 bt524.2.2.1) else ((laws_vSame.f k bt531.1 bt535.1).bind fun t539 => (laws_FnMeetsOfBiorders.j4 k bt524.2.2.2 bt531.1 bt531.2 (!t539) bt524.1 bt524.2.1 bt524.2.2.1)))))
def laws_FnMeetsOfBiorders.j4 : Nat → Int → List Int → Bool → Bool → Int → Int → List Int → Option (Bool)
 | 0, _, _, _, _, _, _, _ => none
 | k + 1, x30, x31, x32, x222, x531000, x531001, x531002 => if x222 = true then (some false) else (if x32 = true then ((impl_EmptyCells.f k x531000 x531001 x531002).bind fun bt540 => (if bt540.2 = true then (laws_FnMeetsOfBiorders.l1 k x30 x31 bt540.1 0 x531000 x531001 x531002) else (some false))) else (some true))
def laws_FnMeetsOfBiorders.l1 : Nat → Int → List Int → List Int → Int → Int → Int → List Int → Option (Bool)
 | 0, _, _, _, _, _, _, _ => none
 | k + 1, x30, x31, x35, x37, x531000, x531001, x531002 => if x37 < x30 then (laws_FnMeetsOfBiorders.l2 k x30 x31 x35 x37 ([] : List Int) x31 (x31.length : Int) 0 x531000 x531001 x531002) else (some true)
def laws_FnMeetsOfBiorders.l2 : Nat → Int → List Int → List Int → Int → List Int → List Int → Int → Int → Int → Int → List Int → Option (Bool)
 | 0, _, _, _, _, _, _, _, _, _, _, _ => none
 | k + 1, x30, x31, x35, x37, x38, x236, x237, x238, x531000, x531001, x531002 => if x238 < x237 then (if 0 ≤ x238 then (if x238 < (x236.length : Int) then (if (rd x236 x238) = x37 then (if x238 < (x35.length : Int) then (if x38.length < 17592186044416 then (laws_FnMeetsOfBiorders.l2 k x30 x31 x35 x37 (x38 ++ [rd x35 x238]) x236 x237 (wrap64 (x238 + 1)) x531000 x531001 x531002) else (none)) else (none)) else (laws_FnMeetsOfBiorders.l2 k x30 x31 x35 x37 x38 x236 x237 (wrap64 (x238 + 1)) x531000 x531001 x531002)) else (none)) else (none)) else ((impl_FreeOrder.f k x531000 x531001 x531002 x38).bind fun bt549 => (if bt549.2 = true then (laws_FnMeetsOfBiorders.l1 k x30 x31 x35 (wrap64 (x37 + 1)) x531000 x531001 x531002) else (some false)))
def laws_FnMeetsOfBiorders.l0 : Nat → List Int → List (S28) → List (S28) → Int → List (S28) → Int → Int → Int → Int → List Int → Int → Int → List Int → Option (Bool)
 | 0, _, _, _, _, _, _, _, _, _, _, _, _, _ => none
 | k + 1, x1, x6, x8, x10, x97, x98, x99, x482000, x482001, x482002, x496000, x496001, x496002 => if x99 < x98 then (if 0 ≤ x99 then (if x99 < (x97.length : Int) then ((impl_IsBiorder.f k ((Enc.rd x97 x99).f0) ((Enc.rd x97 x99).f1) ((Enc.rd x97 x99).f2)).bind fun bt498 => ((impl_MeetTables.f k x496000 x496001 x496002 ((Enc.rd x97 x99).f0) ((Enc.rd x97 x99).f1) ((Enc.rd x97 x99).f2)).bind fun bt500 => (if x99 < (x8.length : Int) then ((laws_vTable.f k ((Enc.rd x97 x99).f0) ((Enc.rd x97 x99).f1) ((Enc.rd x97 x99).f2) ((Enc.rd x8 x99).f0) ((Enc.rd x8 x99).f1) ((Enc.rd x8 x99).f2)).bind fun t508 => (if t508 = true then (if bt498.2 = true then (if bt498.1 = true then (if bt500.2.2.2 = true then (laws_FnMeetsOfBiorders.l0 k x1 x6 x8 x10 x97 x98 (wrap64 (x99 + 1)) x482000 x482001 x482002 bt500.1 bt500.2.1 bt500.2.2.1) else (some false)) else (some false)) else (some false)) else (some false))) else (none)))) else (none)) else (none)) else ((impl_IsBiorder.f k x482000 x482001 x482002).bind fun bt509 => ((impl_SplitCells.f k x482000 x482001 x482002 x10).bind fun bt511 => ((impl_EmptyCells.f k x482000 x482001 x482002).bind fun bt515 => ((laws_vTable.f k x496000 x496001 x496002 x482000 x482001 x482002).bind fun t519 => (if t519 = true then (if (x6.length : Int) = x10 then (if bt509.2 = true then (if (bt509.1 != (x10 == 1)) = true then (laws_FnMeetsOfBiorders.j2 k x1 x10 true x482000 x482001 x482002) else (if bt511.2 = true then (if bt515.2 = true then (laws_FnMeetsOfBiorders.j2 k x1 x10 ((bt511.1.length : Int) != (bt515.1.length : Int)) x482000 x482001 x482002) else (laws_FnMeetsOfBiorders.j2 k x1 x10 true x482000 x482001 x482002)) else (laws_FnMeetsOfBiorders.j2 k x1 x10 true x482000 x482001 x482002))) else (laws_FnMeetsOfBiorders.j2 k x1 x10 true x482000 x482001 x482002)) else (laws_FnMeetsOfBiorders.j2 k x1 x10 true x482000 x482001 x482002)) else (laws_FnMeetsOfBiorders.j2 k x1 x10 true x482000 x482001 x482002))))))
def laws_FnMeetsOfBiorders.j2 : Nat → List Int → Int → Bool → Int → Int → List Int → Option (Bool)
 | 0, _, _, _, _, _, _ => none
 | k + 1, x1, x10, x186, x482000, x482001, x482002 => if x186 = true then (some false) else (if x10 > 1 then ((impl_SplitCells.f k x482000 x482001 x482002 (wrap64 (x10 - 1))).bind fun bt520 => (if bt520.2 = true then (some false) else (laws_FnMeetsOfBiorders.j3 k x1))) else (laws_FnMeetsOfBiorders.j3 k x1))
end
def laws_FnMeetsOfBiorders.f (k : Nat) (l0 : List Int) (l1 : List Int) : Option (Bool) := (laws_big.f l0 l1).bind fun t475 => (if t475 = true then (some true) else ((spec_DrawMeetOfBiorders.f k l0).bind fun bt476 => ((impl_MeetOfBiorders.f k bt476.1 bt476.2.1 bt476.2.2).bind fun bt482 => ((spec_MeetOfBiorders.f k bt476.1 bt476.2.1 bt476.2.2).bind fun bt486 => ((impl_LeastParts.f k bt476.1 bt476.2.1 bt476.2.2).bind fun bt490 => ((spec_LeastParts.f k bt476.1 bt476.2.1 bt476.2.2).bind fun bt492 => (if (bt482.2 != bt486.2) = true then (laws_FnMeetsOfBiorders.j0 k l1 bt482.1 bt482.2 bt486.1 bt490.1 true bt476.1 bt476.2.1 bt476.2.2) else (if (bt482.1.length : Int) = (bt486.1.length : Int) then (if (bt490.2 != bt492.2) = true then (laws_FnMeetsOfBiorders.j0 k l1 bt482.1 bt482.2 bt486.1 bt490.1 true bt476.1 bt476.2.1 bt476.2.2) else (if bt490.1 = bt492.1 then (laws_FnMeetsOfBiorders.j0 k l1 bt482.1 bt482.2 bt486.1 bt490.1 (bt482.2 != bt490.2) bt476.1 bt476.2.1 bt476.2.2) else (laws_FnMeetsOfBiorders.j0 k l1 bt482.1 bt482.2 bt486.1 bt490.1 true bt476.1 bt476.2.1 bt476.2.2))) else (laws_FnMeetsOfBiorders.j0 k l1 bt482.1 bt482.2 bt486.1 bt490.1 true bt476.1 bt476.2.1 bt476.2.2)))))))))
set_option maxRecDepth 100000 in
set_option maxHeartbeats 20000000 in
theorem laws_FnMeetsOfBiorders.ac (k : Nat) (l0 : List Int) (l1 : List Int)  (h : laws_FnMeetsOfBiorders.f k l0 l1 = some true) :
  ACalls Try.prog 7 [.row 1 l0.length false (ints .u8 l0), .row 1 l1.length false (ints .u8 l1)] [] (fun v H' => v = .lit (.bool true) ∧ H' = []) := by
 refine ACalls.ofP [4] Try.func7 rfl (by exact Nat.le_of_ble_eq_true rfl) rfl (by decide) ?_
 simp only [Try.ntmps7, env0, laws_FnMeetsOfBiorders.f] at h ⊢
 refine AWp.seq ?_
 refine AWp.region ?_
 refine L.Y Y.asg ?_
 refine AList.nil ?_
 refine AWp.seq ?_
 refine AWp.seq ?_
 refine AWp.region ?_
 refine L.Y Y.mv ?_
 refine L.Y Y.mv ?_
 obtain ⟨t475, hc1, h⟩ := Option.bind_eq_some_iff.1 h
 refine L.C (C.callE (l := true) [] Try.func19 (laws_big.ac _ _ _ hc1) .nil ?_)
 refine AList.nil ?_
 refine W.cond (fun hb => ?_) (fun hb => ?_)
 ·
  have hb2 := hb
  try simp only [hS, hE, ne_eq] at hb
  first | rw [if_pos hb2] at h | rw [if_neg (Bool.eq_false_iff.1 hb2)] at h | rw [if_pos hb] at h | rw [if_neg hb] at h | (simp only [hb, hT, reduceIte] at h) | skip
  refine AWp.seq ?_
  refine AWp.region ?_
  refine L.Y Y.asg ?_
  refine AList.nil ?_
  refine AWp.ret ?_
  first | (exfalso; cases h; done) | exact ⟨.inr rfl, [(4, _)], _, ⟨rfl, rfl⟩, IsPart.at [] [] base0 .nil (E.c .nil (hs := Sub.litE (LV h)))⟩
 ·
  have hb2 := hb
  try simp only [hS, hE, ne_eq] at hb
  first | rw [if_pos hb2] at h | rw [if_neg (Bool.eq_false_iff.1 hb2)] at h | rw [if_pos hb] at h | rw [if_neg hb] at h | (simp only [hb, hT, reduceIte] at h) | skip
  refine AWp.skip ?_
  refine AWp.seq ?_
  refine AWp.region ?_
  refine L.Y Y.mv ?_
  obtain ⟨⟨t476, t477, t478⟩, hc3, h⟩ := Option.bind_eq_some_iff.1 h
  dsimp only at h
  refine L.C (C.callE (l := true) [] Try.func36 (spec_DrawMeetOfBiorders.ac _ _ _ _ _ hc3) .nil ?_)
  refine L.M (M.al Y28) ?_
  refine L.S (S.stb Y28) ?_
  refine AList.nil ?_
  refine AWp.seq ?_
  refine W.kp [0, 1, 4, 5, 45] ?_
  refine AWp.region ?_
  refine L.S (S.ldN Try.underlying28 Y28) ?_
  obtain ⟨⟨t482, t485⟩, hc4, h⟩ := Option.bind_eq_some_iff.1 h
  dsimp only at h
  refine L.C ?_
  refine C.frz 0 ?_
  refine C.callE (l := false) [] Try.func32 (impl_MeetOfBiorders.ac _ _ _ _ _ _ hc4) .nil ?_
  refine L.Y Y.mv ?_
  refine L.Y Y.ex ?_
  refine L.Y Y.ex ?_
  refine L.Y Y.asg ?_
  refine L.Y Y.asg ?_
  refine AList.nil ?_
  refine AWp.seq ?_
  refine W.kp [0, 1, 4, 5, 6, 7, 45] ?_
  refine AWp.region ?_
  refine L.S (S.ldN Try.underlying28 Y28) ?_
  obtain ⟨⟨t486, t489⟩, hc5, h⟩ := Option.bind_eq_some_iff.1 h
  dsimp only at h
  refine L.C (C.callE (l := false) [] Try.func31 (spec_MeetOfBiorders.ac _ _ _ _ _ _ hc5) .nil ?_)
  refine L.Y Y.mv ?_
  refine L.Y Y.ex ?_
  refine L.Y Y.ex ?_
  refine L.Y Y.asg ?_
  refine L.Y Y.asg ?_
  refine AList.nil ?_
  refine AWp.seq ?_
  refine W.kp [0, 1, 4, 5, 6, 7, 8, 9, 45] ?_
  refine AWp.region ?_
  refine L.S (S.ldN Try.underlying28 Y28) ?_
  obtain ⟨⟨t490, t491⟩, hc6, h⟩ := Option.bind_eq_some_iff.1 h
  dsimp only at h
  refine L.C (C.callE (l := true) [] Try.func11 (impl_LeastParts.ac _ _ _ _ _ _ hc6) .nil ?_)
  refine L.Y Y.mv ?_
  refine L.Y Y.ex ?_
  refine L.Y Y.ex ?_
  refine L.Y Y.asg ?_
  refine L.Y Y.asg ?_
  refine AList.nil ?_
  refine AWp.seq ?_
  refine W.kp [0, 1, 4, 5, 6, 7, 8, 9, 10, 11, 45] ?_
  refine AWp.region ?_
  refine L.S (S.ldN Try.underlying28 Y28) ?_
  obtain ⟨⟨t492, t493⟩, hc7, h⟩ := Option.bind_eq_some_iff.1 h
  dsimp only at h
  refine L.C (C.callE (l := true) [] Try.func9 (spec_LeastParts.ac _ _ _ _ _ _ hc7) .nil ?_)
  refine L.Y Y.mv ?_
  refine L.Y Y.ex ?_
  refine L.Y Y.ex ?_
  refine L.Y Y.asg ?_
  refine L.Y Y.asg ?_
  refine AList.nil ?_
  refine AWp.seq ?_
  refine AWp.seq ?_
  refine W.kp [0, 1, 4, 5, 6, 7, 8, 9, 10, 11, 12, 13, 45] ?_
  refine AWp.region ?_
  refine L.Y Y.mv ?_
  refine L.Y Y.mv ?_
  refine L.Y (Y.bb Try.underlying4) ?_
  refine L.Y Y.mv ?_
  refine L.Gc (fun hb => ?_) (fun hb => ?_)
  ·
   have hb8 := hb
   try simp only [hS, hE, ne_eq] at hb
   first | rw [if_pos hb8] at h | rw [if_neg (Bool.eq_false_iff.1 hb8)] at h | rw [if_pos hb] at h | rw [if_neg hb] at h | (simp only [hb, hT, reduceIte] at h) | skip
   exfalso
   revert h
   exact fun h => by cases k <;> simp [laws_FnMeetsOfBiorders.j0] at h
  ·
   have hb8 := hb
   try simp only [hS, hE, ne_eq] at hb
   first | rw [if_pos hb8] at h | rw [if_neg (Bool.eq_false_iff.1 hb8)] at h | rw [if_pos hb] at h | rw [if_neg hb] at h | (simp only [hb, hT, reduceIte] at h) | skip
   refine L.Gy hb8 Y.mv ?_
   refine L.Gy hb8 (Y.ln Try.underlying50) ?_
   refine L.Gy hb8 Y.mv ?_
   refine L.Gy hb8 (Y.ln Try.underlying50) ?_
   refine L.Gy hb8 Y.bin ?_
   refine L.Y (Y.pk (c := false) hb8) ?_
   refine L.Y Y.mv ?_
   refine L.Gc (fun hb => ?_) (fun hb => ?_)
   ·
    have hb9 := hb
    try simp only [hS, hE, ne_eq] at hb
    first | rw [if_pos hb9] at h | rw [if_neg (Bool.eq_false_iff.1 hb9)] at h | rw [if_pos hb] at h | rw [if_neg hb] at h | (simp only [hb, hT, reduceIte] at h) | skip
    exfalso
    revert h
    exact fun h => by cases k <;> simp [laws_FnMeetsOfBiorders.j0] at h
   ·
    have hb9 := hb
    try simp only [hS, hE, ne_eq] at hb
    first | rw [if_pos hb9] at h | rw [if_neg (Bool.eq_false_iff.1 hb9)] at h | rw [if_pos hb] at h | rw [if_neg hb] at h | (simp only [hb, hT, reduceIte] at h) | skip
    refine L.Gy hb9 Y.mv ?_
    refine L.Gy hb9 Y.mv ?_
    refine L.Gy hb9 (Y.bb Try.underlying4) ?_
    refine L.Y (Y.pk (c := false) hb9) ?_
    refine L.Y Y.mv ?_
    refine L.Gc (fun hb => ?_) (fun hb => ?_)
    ·
     have hb10 := hb
     try simp only [hS, hE, ne_eq] at hb
     first | rw [if_pos hb10] at h | rw [if_neg (Bool.eq_false_iff.1 hb10)] at h | rw [if_pos hb] at h | rw [if_neg hb] at h | (simp only [hb, hT, reduceIte] at h) | skip
     exfalso
     revert h
     exact fun h => by cases k <;> simp [laws_FnMeetsOfBiorders.j0] at h
    ·
     have hb10 := hb
     try simp only [hS, hE, ne_eq] at hb
     first | rw [if_pos hb10] at h | rw [if_neg (Bool.eq_false_iff.1 hb10)] at h | rw [if_pos hb] at h | rw [if_neg hb] at h | (simp only [hb, hT, reduceIte] at h) | skip
     refine L.Gy hb10 Y.mv ?_
     refine L.Gy hb10 Y.mv ?_
     refine L.Gy hb10 Y.bin ?_
     refine L.Y (Y.pk (c := false) hb10) ?_
     refine L.Y Y.mv ?_
     refine L.Gc (fun hb => ?_) (fun hb => ?_)
     ·
      have hb11 := hb
      try simp only [hS, hE, ne_eq] at hb
      first | rw [if_pos hb11] at h | rw [if_neg (Bool.eq_false_iff.1 hb11)] at h | rw [if_pos hb] at h | rw [if_neg hb] at h | (simp only [hb, hT, reduceIte] at h) | skip
      exfalso
      revert h
      exact fun h => by cases k <;> simp [laws_FnMeetsOfBiorders.j0] at h
     ·
      have hb11 := hb
      try simp only [hS, hE, ne_eq] at hb
      first | rw [if_pos hb11] at h | rw [if_neg (Bool.eq_false_iff.1 hb11)] at h | rw [if_pos hb] at h | rw [if_neg hb] at h | (simp only [hb, hT, reduceIte] at h) | skip
      refine L.Gy hb11 Y.mv ?_
      refine L.Gy hb11 Y.mv ?_
      refine L.Gy hb11 (Y.bb Try.underlying4) ?_
      refine L.Y (Y.pk (c := false) hb11) ?_
      refine AList.nil ?_
      rcases k with _ | k
      ·
       exact absurd h (by simp [laws_FnMeetsOfBiorders.j0])
      simp only [laws_FnMeetsOfBiorders.j0] at h
      refine W.cond (fun hb => ?_) (fun hb => ?_)
      ·
       have hb12 := hb
       try simp only [hS, hE, ne_eq] at hb
       first | rw [if_pos hb12] at h | rw [if_neg (Bool.eq_false_iff.1 hb12)] at h | rw [if_pos hb] at h | rw [if_neg hb] at h | (simp only [hb, hT, reduceIte] at h) | skip
       exfalso
       revert h
       exact fun h => by simp at h
      ·
       have hb12 := hb
       try simp only [hS, hE, ne_eq] at hb
       first | rw [if_pos hb12] at h | rw [if_neg (Bool.eq_false_iff.1 hb12)] at h | rw [if_pos hb] at h | rw [if_neg hb] at h | (simp only [hb, hT, reduceIte] at h) | skip
       refine AWp.skip ?_
       refine AWp.seq ?_
       refine AWp.seq ?_
       refine W.kp [0, 1, 4, 5, 6, 7, 8, 9, 10, 11, 12, 13, 45, 92] ?_
       refine AWp.region ?_
       refine L.Y Y.mv ?_
       refine AList.nil ?_
       refine W.cond (fun hb => ?_) (fun hb => ?_)
       ·
        have hb13 := hb
        try simp only [hS, hE, ne_eq] at hb
        first | rw [if_pos hb13] at h | rw [if_neg (Bool.eq_false_iff.1 hb13)] at h | rw [if_pos hb] at h | rw [if_neg hb] at h | (simp only [hb, hT, reduceIte] at h) | skip
        repeat (first | (rw [iN] at h; obtain ⟨_, h⟩ := h) | (rw [iP] at h; obtain ⟨_, h⟩ := h) | (simp only [bS] at h))
        refine AWp.seq ?_
        refine AWp.region ?_
        refine L.Y Y.mv ?_
        refine L.Y (Y.ixo Try.underlying50 Y28) ?_
        refine L.S (S.ldTN 3 Try.underlying28 Y28 en_T28) ?_
        refine L.M (M.al Y28) ?_
        refine L.S (S.stb Y28) ?_
        refine AList.nil ?_
        refine AWp.seq ?_
        refine AWp.seq ?_
        refine AWp.region ?_
        refine L.Y Y.mv ?_
        refine L.Y (Y.ln Try.underlying50) ?_
        refine L.Y Y.mv ?_
        refine AList.nil ?_
        refine AWp.block ?_
        refine AWp.loopI (fun kk e H => kk ≤ k ∧ ∃ (x97 : List (S28)) (x8 : List (S28)) (x10 : Int) (x98 : Int) (x99 : Int) (x482000 : Int) (x482001 : Int) (x482002 : List Int) (x496000 : Int) (x496001 : Int) (x496002 : List Int), e = [(1, .row 1 l1.length false (ints .u8 l1)), (5, .ptr 0 0), (6, .own 1 x97.length), (8, .own 2 x8.length), (10, .lit (.int .i64 x10)), (14, .ptr 3 0), (97, .own 1 x97.length), (98, .lit (.int .i64 x98)), (99, .lit (.int .i64 x99))] ∧ H = [.bx 28 [.lit (.int .i64 x482000), .lit (.int .i64 x482001), .row 1 x482002.length false (ints .i64 x482002)], .sl 28 3 x97.length false (Enc.cells x97), .sl 28 3 x8.length false (Enc.cells x8), .bx 28 [.lit (.int .i64 x496000), .lit (.int .i64 x496001), .row 1 x496002.length false (ints .i64 x496002)]] ∧ laws_FnMeetsOfBiorders.l0 kk l1 x97 x8 x10 x97 x98 x99 x482000 x482001 x482002 x496000 x496001 x496002 = some true) (k := k)
         ⟨_, _, ⟨Nat.le_refl _, _, _, _, _, _, _, _, _, _, _, _, rfl, rfl, h⟩, IsPart.at [] [1, 2, 3, 4] base0 (H.c (H.c (H.c (H.c .nil)))) (E.c (E.c (E.c (E.c (E.c (E.c (E.c (E.c (E.c .nil)))))))))⟩ ?_
        clear h
        rintro k14 e H ⟨hk15, x97, x8, x10, x98, x99, x482000, x482001, x482002, x496000, x496001, x496002, rfl, rfl, h⟩
        cases k14 with
        | zero => exact absurd h (by simp [laws_FnMeetsOfBiorders.l0])
        | succ k14 =>
        simp only [laws_FnMeetsOfBiorders.l0] at h
        refine AWp.seq ?_
        refine AWp.region ?_
        refine L.Y Y.bin ?_
        refine AList.nil ?_
        refine AWp.seq ?_
        refine W.cond (fun hb => ?_) (fun hb => ?_)
        ·
         have hb16 := hb
         try simp only [hS, hE, ne_eq] at hb
         first | rw [if_pos hb16] at h | rw [if_neg (Bool.eq_false_iff.1 hb16)] at h | rw [if_pos hb] at h | rw [if_neg hb] at h | (simp only [hb, hT, reduceIte] at h) | skip
         repeat (first | (rw [iN] at h; obtain ⟨_, h⟩ := h) | (rw [iP] at h; obtain ⟨_, h⟩ := h) | (simp only [bS] at h))
         refine AWp.skip ?_
         refine AWp.seq ?_
         refine AWp.block ?_
         refine AWp.seq ?_
         refine AWp.region ?_
         refine L.Y Y.mv ?_
         refine L.Y (Y.ixo Try.underlying50 Y28) ?_
         refine L.S (S.ldTN 3 Try.underlying28 Y28 en_T28) ?_
         refine L.M (M.al Y28) ?_
         refine L.Y Y.asg ?_
         refine L.S (S.stb Y28) ?_
         refine AList.nil ?_
         refine AWp.seq ?_
         refine AWp.region ?_
         refine L.S (S.ldN Try.underlying28 Y28) ?_
         obtain ⟨⟨t498, t499⟩, hc17, h⟩ := Option.bind_eq_some_iff.1 h
         dsimp only at h
         refine L.C (C.callE (l := true) [] Try.func27 (impl_IsBiorder.ac _ _ _ _ _ _ hc17) .nil ?_)
         refine L.Y Y.mv ?_
         refine L.Y Y.ex ?_
         refine L.Y Y.ex ?_
         refine L.Y Y.asg ?_
         refine L.Y Y.asg ?_
         refine AList.nil ?_
         refine AWp.seq ?_
         refine W.kp [1, 5, 6, 8, 10, 14, 15, 16, 17, 18, 97, 98, 99, 100] ?_
         refine AWp.region ?_
         refine L.S (S.ldN Try.underlying28 Y28) ?_
         refine L.S (S.ldN Try.underlying28 Y28) ?_
         obtain ⟨⟨t500, t501, t502, t505⟩, hc18, h⟩ := Option.bind_eq_some_iff.1 h
         dsimp only at h
         repeat (first | (rw [iN] at h; obtain ⟨_, h⟩ := h) | (rw [iP] at h; obtain ⟨_, h⟩ := h) | (simp only [bS] at h))
         refine L.C (C.callE (l := true) [] Try.func28 (impl_MeetTables.ac _ _ _ _ _ _ _ _ _ _ _ hc18) .nil ?_)
         refine L.Y Y.mv ?_
         refine L.Y Y.ex ?_
         refine L.Y Y.ex ?_
         refine L.M (M.al Y28) ?_
         refine L.S (S.stb Y28) ?_
         refine L.Y Y.asg ?_
         refine AList.nil ?_
         refine AWp.seq ?_
         refine AWp.seq ?_
         refine W.kp [1, 5, 6, 8, 10, 14, 15, 16, 17, 18, 19, 20, 97, 98, 99, 100] ?_
         refine Dt.reg [] [] (.t 0 (.y 1 (.y 2 (.y 3 (.t 4 (.one 5 (.y 6 (.y 7 (.y 8 (.y 9 (.y 10 (.y 11 (.y 12 (.y 13 (.y 14 (.y 15 (.y 16 (.y 17 (.y 18 .done))))))))))))))))))) HM ?_
         refine Dt.T rfl wantN (D.ldN Try.underlying28 Y28) ?_
         refine Dt.Y rfl wantN Y.mv ?_
         refine Dt.Y rfl wantN Y.mv ?_
         refine Dt.Y rfl wantN (Y.ixo Try.underlying50 Y28) ?_
         refine Dt.T rfl wantN (D.ldTN 3 Try.underlying28 Y28 en_T28) ?_
         refine Dt.O (g' := false) rfl wantN ?_
         obtain ⟨t508, hc19, h⟩ := Option.bind_eq_some_iff.1 h
         refine Ox.C true [] Try.func25 (laws_vTable.ac _ _ _ _ _ _ _ _ hc19) .nil ?_
         refine Dt.Y rfl wantN Y.nt ?_
         refine Dt.Y rfl wantN Y.mv ?_
         refine Dt.F 122 (fun hb => ?_) (fun hb => ?_)
         ·
          have hb20 := hb
          try simp only [hS, hE, ne_eq] at hb
          first | rw [if_pos hb20] at h | rw [if_neg (Bool.eq_false_iff.1 hb20)] at h | rw [if_pos hb] at h | rw [if_neg hb] at h | (simp only [hb, hT, reduceIte] at h) | skip
          exfalso
          revert h
          exact fun h => by simp at h
         ·
          have hb20 := hb
          try simp only [hS, hE, ne_eq] at hb
          first | rw [if_pos hb20] at h | rw [if_neg (Bool.eq_false_iff.1 hb20)] at h | rw [if_pos hb] at h | rw [if_neg hb] at h | (simp only [hb, hT, reduceIte] at h) | skip
          refine Dt.Y rfl (wantY hb20) Y.mv ?_
          refine Dt.Y rfl (wantY hb20) Y.nt ?_
          refine Dt.Y rfl wantN (Y.pk (c := false) hb20) ?_
          refine Dt.Y rfl wantN Y.mv ?_
          refine Dt.F 126 (fun hb => ?_) (fun hb => ?_)
          ·
           have hb21 := hb
           try simp only [hS, hE, ne_eq] at hb
           first | rw [if_pos hb21] at h | rw [if_neg (Bool.eq_false_iff.1 hb21)] at h | rw [if_pos hb] at h | rw [if_neg hb] at h | (simp only [hb, hT, reduceIte] at h) | skip
           exfalso
           revert h
           exact fun h => by simp at h
          ·
           have hb21 := hb
           try simp only [hS, hE, ne_eq] at hb
           first | rw [if_pos hb21] at h | rw [if_neg (Bool.eq_false_iff.1 hb21)] at h | rw [if_pos hb] at h | rw [if_neg hb] at h | (simp only [hb, hT, reduceIte] at h) | skip
           refine Dt.Y rfl (wantY hb21) Y.mv ?_
           refine Dt.Y rfl (wantY hb21) Y.nt ?_
           refine Dt.Y rfl wantN (Y.pk (c := false) hb21) ?_
           refine Dt.Y rfl wantN Y.mv ?_
           refine Dt.F 130 (fun hb => ?_) (fun hb => ?_)
           ·
            have hb22 := hb
            try simp only [hS, hE, ne_eq] at hb
            first | rw [if_pos hb22] at h | rw [if_neg (Bool.eq_false_iff.1 hb22)] at h | rw [if_pos hb] at h | rw [if_neg hb] at h | (simp only [hb, hT, reduceIte] at h) | skip
            exfalso
            revert h
            exact fun h => by simp at h
           ·
            have hb22 := hb
            try simp only [hS, hE, ne_eq] at hb
            first | rw [if_pos hb22] at h | rw [if_neg (Bool.eq_false_iff.1 hb22)] at h | rw [if_pos hb] at h | rw [if_neg hb] at h | (simp only [hb, hT, reduceIte] at h) | skip
            refine Dt.Y rfl (wantY hb22) Y.mv ?_
            refine Dt.Y rfl (wantY hb22) Y.nt ?_
            refine Dt.Y rfl wantN (Y.pk (c := false) hb22) ?_
            refine Dt.nil ?_
            refine W.cond (fun hb => ?_) (fun hb => ?_)
            ·
             have hb23 := hb
             try simp only [hS, hE, ne_eq] at hb
             first | rw [if_pos hb23] at h | rw [if_neg (Bool.eq_false_iff.1 hb23)] at h | rw [if_pos hb] at h | rw [if_neg hb] at h | (simp only [hb, hT, reduceIte] at h) | skip
             exfalso
             revert h
             exact fun h => by simp at h
            ·
             have hb23 := hb
             try simp only [hS, hE, ne_eq] at hb
             first | rw [if_pos hb23] at h | rw [if_neg (Bool.eq_false_iff.1 hb23)] at h | rw [if_pos hb] at h | rw [if_neg hb] at h | (simp only [hb, hT, reduceIte] at h) | skip
             refine AWp.skip ?_
             refine W.kp [1, 5, 6, 8, 10, 14, 15, 16, 17, 18, 19, 20, 97, 98, 99, 100, 133] ?_
             refine AWp.region ?_
             refine L.S (S.ldN Try.underlying28 Y28) ?_
             refine L.S (S.stb Y28) ?_
             refine AList.nil ?_
             refine AWp.region ?_
             refine L.Y Y.bin ?_
             refine L.Y Y.mv ?_
             refine AList.nil ?_
             exact ⟨k14, by omega, _, _, ⟨by omega, _, _, _, _, _, _, _, _, _, _, _, rfl, rfl, h⟩, IsPart.at [] [0, 1, 2, 3] base0 (H.c (H.c (H.c (H.c .nil)))) (E.c (E.c (E.c (E.c (E.c (E.c (E.c (E.c (E.c .nil)))))))))⟩
        ·
         have hb16 := hb
         try simp only [hS, hE, ne_eq] at hb
         first | rw [if_pos hb16] at h | rw [if_neg (Bool.eq_false_iff.1 hb16)] at h | rw [if_pos hb] at h | rw [if_neg hb] at h | (simp only [hb, hT, reduceIte] at h) | skip
         refine AWp.exit ?_
         refine AWp.seq ?_
         refine AWp.region ?_
         refine L.S (S.ldN Try.underlying28 Y28) ?_
         obtain ⟨⟨t509, t510⟩, hc24, h⟩ := Option.bind_eq_some_iff.1 h
         dsimp only at h
         refine L.C (C.callE (l := true) [] Try.func27 (impl_IsBiorder.ac _ _ _ _ _ _ hc24) .nil ?_)
         refine L.Y Y.mv ?_
         refine L.Y Y.ex ?_
         refine L.Y Y.ex ?_
         refine L.Y Y.asg ?_
         refine L.Y Y.asg ?_
         refine AList.nil ?_
         refine AWp.seq ?_
         refine W.kp [1, 5, 6, 8, 10, 14, 21, 22, 97, 98, 99, 100] ?_
         refine AWp.region ?_
         refine L.S (S.ldN Try.underlying28 Y28) ?_
         refine L.Y Y.mv ?_
         obtain ⟨⟨t511, t514⟩, hc25, h⟩ := Option.bind_eq_some_iff.1 h
         dsimp only at h
         refine L.C (C.callE (l := true) [] Try.func14 (impl_SplitCells.ac _ _ _ _ _ _ _ hc25) .nil ?_)
         refine L.Y Y.mv ?_
         refine L.Y Y.ex ?_
         refine L.Y Y.ex ?_
         refine L.Y Y.asg ?_
         refine L.Y Y.asg ?_
         refine AList.nil ?_
         refine AWp.seq ?_
         refine W.kp [1, 5, 6, 8, 10, 14, 21, 22, 23, 24, 97, 98, 99, 100] ?_
         refine AWp.region ?_
         refine L.S (S.ldN Try.underlying28 Y28) ?_
         obtain ⟨⟨t515, t518⟩, hc26, h⟩ := Option.bind_eq_some_iff.1 h
         dsimp only at h
         refine L.C (C.callE (l := true) [] Try.func37 (impl_EmptyCells.ac _ _ _ _ _ _ hc26) .nil ?_)
         refine L.Y Y.mv ?_
         refine L.Y Y.ex ?_
         refine L.Y Y.ex ?_
         refine L.Y Y.asg ?_
         refine L.Y Y.asg ?_
         refine AList.nil ?_
         refine AWp.seq ?_
         refine AWp.seq ?_
         refine W.kp [1, 5, 6, 8, 10, 14, 21, 22, 23, 24, 25, 26, 97, 98, 99, 100] ?_
         refine AWp.region ?_
         refine L.S (S.ldN Try.underlying28 Y28) ?_
         refine L.S (S.ldN Try.underlying28 Y28) ?_
         obtain ⟨t519, hc27, h⟩ := Option.bind_eq_some_iff.1 h
         refine L.C (C.callE (l := true) [] Try.func25 (laws_vTable.ac _ _ _ _ _ _ _ _ hc27) .nil ?_)
         refine L.Y Y.nt ?_
         refine L.Y Y.mv ?_
         refine L.Gc (fun hb => ?_) (fun hb => ?_)
         ·
          have hb28 := hb
          try simp only [hS, hE, ne_eq] at hb
          first | rw [if_pos hb28] at h | rw [if_neg (Bool.eq_false_iff.1 hb28)] at h | rw [if_pos hb] at h | rw [if_neg hb] at h | (simp only [hb, hT, reduceIte] at h) | skip
          exfalso
          revert h
          exact fun h => by cases k14 <;> simp [laws_FnMeetsOfBiorders.j2] at h
         ·
          have hb28 := hb
          try simp only [hS, hE, ne_eq] at hb
          first | rw [if_pos hb28] at h | rw [if_neg (Bool.eq_false_iff.1 hb28)] at h | rw [if_pos hb] at h | rw [if_neg hb] at h | (simp only [hb, hT, reduceIte] at h) | skip
          refine L.Gy hb28 Y.mv ?_
          refine L.Gy hb28 (Y.ln Try.underlying50) ?_
          refine L.Gy hb28 Y.mv ?_
          refine L.Gy hb28 Y.bin ?_
          refine L.Y (Y.pk (c := false) hb28) ?_
          refine L.Y Y.mv ?_
          refine L.Gc (fun hb => ?_) (fun hb => ?_)
          ·
           have hb29 := hb
           try simp only [hS, hE, ne_eq] at hb
           first | rw [if_pos hb29] at h | rw [if_neg (Bool.eq_false_iff.1 hb29)] at h | rw [if_pos hb] at h | rw [if_neg hb] at h | (simp only [hb, hT, reduceIte] at h) | skip
           exfalso
           revert h
           exact fun h => by cases k14 <;> simp [laws_FnMeetsOfBiorders.j2] at h
          ·
           have hb29 := hb
           try simp only [hS, hE, ne_eq] at hb
           first | rw [if_pos hb29] at h | rw [if_neg (Bool.eq_false_iff.1 hb29)] at h | rw [if_pos hb] at h | rw [if_neg hb] at h | (simp only [hb, hT, reduceIte] at h) | skip
           refine L.Gy hb29 Y.mv ?_
           refine L.Gy hb29 Y.nt ?_
           refine L.Y (Y.pk (c := false) hb29) ?_
           refine L.Y Y.mv ?_
           refine L.Gc (fun hb => ?_) (fun hb => ?_)
           ·
            have hb30 := hb
            try simp only [hS, hE, ne_eq] at hb
            first | rw [if_pos hb30] at h | rw [if_neg (Bool.eq_false_iff.1 hb30)] at h | rw [if_pos hb] at h | rw [if_neg hb] at h | (simp only [hb, hT, reduceIte] at h) | skip
            exfalso
            revert h
            exact fun h => by cases k14 <;> simp [laws_FnMeetsOfBiorders.j2] at h
           ·
            have hb30 := hb
            try simp only [hS, hE, ne_eq] at hb
            first | rw [if_pos hb30] at h | rw [if_neg (Bool.eq_false_iff.1 hb30)] at h | rw [if_pos hb] at h | rw [if_neg hb] at h | (simp only [hb, hT, reduceIte] at h) | skip
            refine L.Gy hb30 Y.mv ?_
            refine L.Gy hb30 Y.mv ?_
            refine L.Gy hb30 Y.bin ?_
            refine L.Gy hb30 (Y.bb Try.underlying4) ?_
            refine L.Y (Y.pk (c := false) hb30) ?_
            refine L.Y Y.mv ?_
            refine L.Gc (fun hb => ?_) (fun hb => ?_)
            ·
             have hb31 := hb
             try simp only [hS, hE, ne_eq] at hb
             first | rw [if_pos hb31] at h | rw [if_neg (Bool.eq_false_iff.1 hb31)] at h | rw [if_pos hb] at h | rw [if_neg hb] at h | (simp only [hb, hT, reduceIte] at h) | skip
             exfalso
             revert h
             exact fun h => by cases k14 <;> simp [laws_FnMeetsOfBiorders.j2] at h
            ·
             have hb31 := hb
             try simp only [hS, hE, ne_eq] at hb
             first | rw [if_pos hb31] at h | rw [if_neg (Bool.eq_false_iff.1 hb31)] at h | rw [if_pos hb] at h | rw [if_neg hb] at h | (simp only [hb, hT, reduceIte] at h) | skip
             refine L.Gy hb31 Y.mv ?_
             refine L.Gy hb31 Y.nt ?_
             refine L.Y (Y.pk (c := false) hb31) ?_
             refine L.Y Y.mv ?_
             refine L.Gc (fun hb => ?_) (fun hb => ?_)
             ·
              have hb32 := hb
              try simp only [hS, hE, ne_eq] at hb
              first | rw [if_pos hb32] at h | rw [if_neg (Bool.eq_false_iff.1 hb32)] at h | rw [if_pos hb] at h | rw [if_neg hb] at h | (simp only [hb, hT, reduceIte] at h) | skip
              exfalso
              revert h
              exact fun h => by cases k14 <;> simp [laws_FnMeetsOfBiorders.j2] at h
             ·
              have hb32 := hb
              try simp only [hS, hE, ne_eq] at hb
              first | rw [if_pos hb32] at h | rw [if_neg (Bool.eq_false_iff.1 hb32)] at h | rw [if_pos hb] at h | rw [if_neg hb] at h | (simp only [hb, hT, reduceIte] at h) | skip
              refine L.Gy hb32 Y.mv ?_
              refine L.Gy hb32 Y.nt ?_
              refine L.Y (Y.pk (c := false) hb32) ?_
              refine L.Y Y.mv ?_
              refine L.Gc (fun hb => ?_) (fun hb => ?_)
              ·
               have hb33 := hb
               try simp only [hS, hE, ne_eq] at hb
               first | rw [if_pos hb33] at h | rw [if_neg (Bool.eq_false_iff.1 hb33)] at h | rw [if_pos hb] at h | rw [if_neg hb] at h | (simp only [hb, hT, reduceIte] at h) | skip
               exfalso
               revert h
               exact fun h => by cases k14 <;> simp [laws_FnMeetsOfBiorders.j2] at h
              ·
               have hb33 := hb
               try simp only [hS, hE, ne_eq] at hb
               first | rw [if_pos hb33] at h | rw [if_neg (Bool.eq_false_iff.1 hb33)] at h | rw [if_pos hb] at h | rw [if_neg hb] at h | (simp only [hb, hT, reduceIte] at h) | skip
               refine L.Gy hb33 Y.mv ?_
               refine L.Gy hb33 (Y.ln Try.underlying22) ?_
               refine L.Gy hb33 Y.mv ?_
               refine L.Gy hb33 (Y.ln Try.underlying22) ?_
               refine L.Gy hb33 Y.bin ?_
               refine L.Y (Y.pk (c := false) hb33) ?_
               refine AList.nil ?_
               rcases k14 with _ | k14
               ·
                exact absurd h (by simp [laws_FnMeetsOfBiorders.j2])
               simp only [laws_FnMeetsOfBiorders.j2] at h
               refine W.cond (fun hb => ?_) (fun hb => ?_)
               ·
                have hb34 := hb
                try simp only [hS, hE, ne_eq] at hb
                first | rw [if_pos hb34] at h | rw [if_neg (Bool.eq_false_iff.1 hb34)] at h | rw [if_pos hb] at h | rw [if_neg hb] at h | (simp only [hb, hT, reduceIte] at h) | skip
                exfalso
                revert h
                exact fun h => by simp at h
               ·
                have hb34 := hb
                try simp only [hS, hE, ne_eq] at hb
                first | rw [if_pos hb34] at h | rw [if_neg (Bool.eq_false_iff.1 hb34)] at h | rw [if_pos hb] at h | rw [if_neg hb] at h | (simp only [hb, hT, reduceIte] at h) | skip
                refine AWp.skip ?_
                refine AWp.seq ?_
                refine W.kp [1, 5, 6, 8, 10, 14, 21, 22, 23, 24, 25, 26, 97, 98, 99, 100, 186] ?_
                refine AWp.region ?_
                refine L.Y Y.mv ?_
                refine L.Y Y.bin ?_
                refine AList.nil ?_
                refine W.cond (fun hb => ?_) (fun hb => ?_)
                ·
                 have hb35 := hb
                 try simp only [hS, hE, ne_eq] at hb
                 first | rw [if_pos hb35] at h | rw [if_neg (Bool.eq_false_iff.1 hb35)] at h | rw [if_pos hb] at h | rw [if_neg hb] at h | (simp only [hb, hT, reduceIte] at h) | skip
                 refine AWp.seq ?_
                 refine AWp.region ?_
                 refine L.S (S.ldN Try.underlying28 Y28) ?_
                 refine L.Y Y.mv ?_
                 refine L.Y Y.bin ?_
                 obtain ⟨⟨t520, t523⟩, hc36, h⟩ := Option.bind_eq_some_iff.1 h
                 dsimp only at h
                 refine L.C (C.callE (l := true) [] Try.func14 (impl_SplitCells.ac _ _ _ _ _ _ _ hc36) .nil ?_)
                 refine L.Y Y.mv ?_
                 refine L.Y Y.ex ?_
                 refine L.Y Y.ex ?_
                 refine L.Y Y.asg ?_
                 refine L.Y Y.asg ?_
                 refine AList.nil ?_
                 refine AWp.seq ?_
                 refine W.kp [1, 5, 6, 8, 10, 14, 21, 22, 23, 24, 25, 26, 28, 97, 98, 99, 100, 186, 188] ?_
                 refine AWp.region ?_
                 refine L.Y Y.mv ?_
                 refine AList.nil ?_
                 refine W.cond (fun hb => ?_) (fun hb => ?_)
                 ·
                  have hb37 := hb
                  try simp only [hS, hE, ne_eq] at hb
                  first | rw [if_pos hb37] at h | rw [if_neg (Bool.eq_false_iff.1 hb37)] at h | rw [if_pos hb] at h | rw [if_neg hb] at h | (simp only [hb, hT, reduceIte] at h) | skip
                  exfalso
                  revert h
                  exact fun h => by simp at h
                 ·
                  have hb37 := hb
                  try simp only [hS, hE, ne_eq] at hb
                  first | rw [if_pos hb37] at h | rw [if_neg (Bool.eq_false_iff.1 hb37)] at h | rw [if_pos hb] at h | rw [if_neg hb] at h | (simp only [hb, hT, reduceIte] at h) | skip
                  refine AWp.skip ?_
                  refine AWp.seq ?_
                  refine AWp.region ?_
                  refine L.Y Y.mv ?_
                  rcases k14 with _ | k14
                  ·
                   exact absurd h (by simp [laws_FnMeetsOfBiorders.j3])
                  simp only [laws_FnMeetsOfBiorders.j3] at h
                  obtain ⟨⟨t524, t525, t526, t529⟩, hc38, h⟩ := Option.bind_eq_some_iff.1 h
                  dsimp only at h
                  refine L.C (C.callE (l := true) [] Try.func38 (spec_DrawSplitCells.ac _ _ _ _ _ _ hc38) .nil ?_)
                  refine L.Y Y.mv ?_
                  refine L.Y Y.ex ?_
                  refine L.Y Y.ex ?_
                  refine L.M (M.al Y28) ?_
                  refine L.S (S.stb Y28) ?_
                  refine L.Y Y.asg ?_
                  refine AList.nil ?_
                  refine AWp.seq ?_
                  refine W.kp [1, 5, 6, 8, 10, 14, 21, 22, 23, 24, 25, 26, 28, 29, 30, 97, 98, 99, 100, 186, 188, 196] ?_
                  refine AWp.region ?_
                  refine L.S (S.ldN Try.underlying28 Y28) ?_
                  refine L.Y Y.mv ?_
                  obtain ⟨⟨t531, t534⟩, hc39, h⟩ := Option.bind_eq_some_iff.1 h
                  dsimp only at h
                  refine L.C (C.callE (l := true) [] Try.func14 (impl_SplitCells.ac _ _ _ _ _ _ _ hc39) .nil ?_)
                  refine L.Y Y.mv ?_
                  refine L.Y Y.ex ?_
                  refine L.Y Y.ex ?_
                  refine L.Y Y.asg ?_
                  refine L.Y Y.asg ?_
                  refine AList.nil ?_
                  refine AWp.seq ?_
                  refine W.kp [1, 5, 6, 8, 10, 14, 21, 22, 23, 24, 25, 26, 28, 29, 30, 31, 32, 97, 98, 99, 100, 186, 188, 196] ?_
                  refine AWp.region ?_
                  refine L.S (S.ldN Try.underlying28 Y28) ?_
                  refine L.Y Y.mv ?_
                  obtain ⟨⟨t535, t538⟩, hc40, h⟩ := Option.bind_eq_some_iff.1 h
                  dsimp only at h
                  refine L.C (C.callE (l := true) [] Try.func13 (spec_SplitCells.ac _ _ _ _ _ _ _ hc40) .nil ?_)
                  refine L.Y Y.mv ?_
                  refine L.Y Y.ex ?_
                  refine L.Y Y.ex ?_
                  refine L.Y Y.asg ?_
                  refine L.Y Y.asg ?_
                  refine AList.nil ?_
                  refine AWp.seq ?_
                  refine AWp.seq ?_
                  refine W.kp [1, 5, 6, 8, 10, 14, 21, 22, 23, 24, 25, 26, 28, 29, 30, 31, 32, 33, 34, 97, 98, 99, 100, 186, 188, 196] ?_
                  refine AWp.region ?_
                  refine L.Y Y.mv ?_
                  refine L.Y Y.mv ?_
                  refine L.Y (Y.bb Try.underlying4) ?_
                  refine L.Y Y.mv ?_
                  refine L.Gc (fun hb => ?_) (fun hb => ?_)
                  ·
                   have hb41 := hb
                   try simp only [hS, hE, ne_eq] at hb
                   first | rw [if_pos hb41] at h | rw [if_neg (Bool.eq_false_iff.1 hb41)] at h | rw [if_pos hb] at h | rw [if_neg hb] at h | (simp only [hb, hT, reduceIte] at h) | skip
                   exfalso
                   revert h
                   exact fun h => by cases k14 <;> simp [laws_FnMeetsOfBiorders.j4] at h
                  ·
                   have hb41 := hb
                   try simp only [hS, hE, ne_eq] at hb
                   first | rw [if_pos hb41] at h | rw [if_neg (Bool.eq_false_iff.1 hb41)] at h | rw [if_pos hb] at h | rw [if_neg hb] at h | (simp only [hb, hT, reduceIte] at h) | skip
                   refine L.Gy hb41 Y.mv ?_
                   refine L.Gy hb41 Y.mv ?_
                   obtain ⟨t539, hc42, h⟩ := Option.bind_eq_some_iff.1 h
                   refine L.GC hb41 (C.callE (l := true) [] Try.func26 (laws_vSame.ac _ _ _ _ hc42) .nil ?_)
                   refine L.Gy hb41 Y.nt ?_
                   refine L.Y (Y.pk (c := false) hb41) ?_
                   refine AList.nil ?_
                   rcases k14 with _ | k14
                   ·
                    exact absurd h (by simp [laws_FnMeetsOfBiorders.j4])
                   simp only [laws_FnMeetsOfBiorders.j4] at h
                   refine W.cond (fun hb => ?_) (fun hb => ?_)
                   ·
                    have hb43 := hb
                    try simp only [hS, hE, ne_eq] at hb
                    first | rw [if_pos hb43] at h | rw [if_neg (Bool.eq_false_iff.1 hb43)] at h | rw [if_pos hb] at h | rw [if_neg hb] at h | (simp only [hb, hT, reduceIte] at h) | skip
                    exfalso
                    revert h
                    exact fun h => by simp at h
                   ·
                    have hb43 := hb
                    try simp only [hS, hE, ne_eq] at hb
                    first | rw [if_pos hb43] at h | rw [if_neg (Bool.eq_false_iff.1 hb43)] at h | rw [if_pos hb] at h | rw [if_neg hb] at h | (simp only [hb, hT, reduceIte] at h) | skip
                    refine AWp.skip ?_
                    refine AWp.seq ?_
                    refine AWp.seq ?_
                    refine W.kp [1, 5, 6, 8, 10, 14, 21, 22, 23, 24, 25, 26, 28, 29, 30, 31, 32, 33, 34, 97, 98, 99, 100, 186, 188, 196, 222] ?_
                    refine AWp.region ?_
                    refine L.Y Y.mv ?_
                    refine AList.nil ?_
                    refine W.cond (fun hb => ?_) (fun hb => ?_)
                    ·
                     have hb44 := hb
                     try simp only [hS, hE, ne_eq] at hb
                     first | rw [if_pos hb44] at h | rw [if_neg (Bool.eq_false_iff.1 hb44)] at h | rw [if_pos hb] at h | rw [if_neg hb] at h | (simp only [hb, hT, reduceIte] at h) | skip
                     refine AWp.seq ?_
                     refine AWp.region ?_
                     refine L.S (S.ldN Try.underlying28 Y28) ?_
                     obtain ⟨⟨t540, t543⟩, hc45, h⟩ := Option.bind_eq_some_iff.1 h
                     dsimp only at h
                     refine L.C (C.callE (l := true) [] Try.func37 (impl_EmptyCells.ac _ _ _ _ _ _ hc45) .nil ?_)
                     refine L.Y Y.mv ?_
                     refine L.Y Y.ex ?_
                     refine L.Y Y.ex ?_
                     refine L.Y Y.asg ?_
                     refine L.Y Y.asg ?_
                     refine AList.nil ?_
                     refine AWp.seq ?_
                     refine AWp.seq ?_
                     refine W.kp [1, 5, 6, 8, 10, 14, 21, 22, 23, 24, 25, 26, 28, 29, 30, 31, 32, 33, 34, 35, 36, 97, 98, 99, 100, 186, 188, 196, 222, 223] ?_
                     refine AWp.region ?_
                     refine L.Y Y.mv ?_
                     refine L.Y Y.nt ?_
                     refine AList.nil ?_
                     refine W.cond (fun hb => ?_) (fun hb => ?_)
                     ·
                      have hb46 := hb
                      try simp only [hS, hE, ne_eq] at hb
                      first | rw [if_pos hb46] at h | rw [if_neg (Bool.eq_false_iff.1 hb46)] at h | rw [if_pos hb] at h | rw [if_neg hb] at h | (simp only [hb, hT, reduceIte] at h) | skip
                      exfalso
                      revert h
                      exact fun h => by simp at h
                     ·
                      have hb46 := hb
                      try simp only [hS, hE, ne_eq] at hb
                      first | rw [if_pos hb46] at h | rw [if_neg (Bool.eq_false_iff.1 hb46)] at h | rw [if_pos hb] at h | rw [if_neg hb] at h | (simp only [hb, hT, reduceIte] at h) | skip
                      refine AWp.skip ?_
                      refine AWp.seq ?_
                      refine AWp.region ?_
                      refine L.Y Y.asg ?_
                      refine AList.nil ?_
                      refine AWp.block ?_
                      refine AWp.loopI (fun kk e H => kk ≤ k14 ∧ ∃ (x30 : Int) (x31 : List Int) (x35 : List Int) (x37 : Int) (x482000 : Int) (x482001 : Int) (x900003000 : Int) (x900003001 : Int) (x531000 : Int) (x531001 : Int) (x531002 : List Int), e = [(5, .ptr 0 0), (14, .ptr 1 0), (29, .ptr 2 0), (30, .lit (.int .i64 x30)), (31, .own 3 x31.length), (35, .own 4 x35.length), (37, .lit (.int .i64 x37))] ∧ H = [.bx 28 [.lit (.int .i64 x482000), .lit (.int .i64 x482001), .row 1 x482002.length false (ints .i64 x482002)], .bx 28 [.lit (.int .i64 x900003000), .lit (.int .i64 x900003001), .row 1 x496002.length false (ints .i64 x496002)], .bx 28 [.lit (.int .i64 x531000), .lit (.int .i64 x531001), .own 5 x531002.length], .sl 3 1 x31.length false (ints .i64 x31), .sl 3 1 x35.length false (ints .i64 x35), .sl 3 1 x531002.length false (ints .i64 x531002)] ∧ laws_FnMeetsOfBiorders.l1 kk x30 x31 x35 x37 x531000 x531001 x531002 = some true) (k := k14)
                       ⟨_, _, ⟨Nat.le_refl _, _, _, _, _, _, _, _, _, _, _, _, rfl, rfl, h⟩, IsPart.at [] [0, 3, 8, 9, 11, 7] base0 (H.c (H.c (H.c (H.c (H.c (H.c .nil)))))) (E.c (E.c (E.c (E.c (E.c (E.c (E.c .nil)))))))⟩ ?_
                      clear h
                      rintro k47 e H ⟨hk48, x30, x31, x35, x37, x482000, x482001, x900003000, x900003001, x531000, x531001, x531002, rfl, rfl, h⟩
                      cases k47 with
                      | zero => exact absurd h (by simp [laws_FnMeetsOfBiorders.l1])
                      | succ k47 =>
                      simp only [laws_FnMeetsOfBiorders.l1] at h
                      refine AWp.seq ?_
                      refine AWp.seq ?_
                      refine AWp.region ?_
                      refine L.Y Y.mv ?_
                      refine L.Y Y.mv ?_
                      refine L.Y Y.bin ?_
                      refine AList.nil ?_
                      refine W.cond (fun hb => ?_) (fun hb => ?_)
                      ·
                       have hb49 := hb
                       try simp only [hS, hE, ne_eq] at hb
                       first | rw [if_pos hb49] at h | rw [if_neg (Bool.eq_false_iff.1 hb49)] at h | rw [if_pos hb] at h | rw [if_neg hb] at h | (simp only [hb, hT, reduceIte] at h) | skip
                       refine AWp.skip ?_
                       refine AWp.seq ?_
                       refine AWp.block ?_
                       refine AWp.seq ?_
                       refine AWp.region ?_
                       refine L.Y Y.asg ?_
                       refine AList.nil ?_
                       refine AWp.seq ?_
                       refine AWp.seq ?_
                       refine AWp.region ?_
                       refine L.Y Y.mv ?_
                       refine L.Y (Y.ln Try.underlying22) ?_
                       refine L.Y Y.mv ?_
                       refine AList.nil ?_
                       refine AWp.block ?_
                       refine AWp.loopI (fun kk e H => kk ≤ k47 ∧ ∃ (x30 : Int) (x236 : List Int) (x35 : List Int) (x37 : Int) (x38 : List Int) (x237 : Int) (x238 : Int) (x482000 : Int) (x482001 : Int) (x900001000 : Int) (x900001001 : Int) (x531000 : Int) (x531001 : Int) (x531002 : List Int), e = [(5, .ptr 0 0), (14, .ptr 1 0), (29, .ptr 2 0), (30, .lit (.int .i64 x30)), (31, .own 3 x236.length), (35, .own 4 x35.length), (37, .lit (.int .i64 x37)), (38, .own 5 x38.length), (236, .own 3 x236.length), (237, .lit (.int .i64 x237)), (238, .lit (.int .i64 x238))] ∧ H = [.bx 28 [.lit (.int .i64 x482000), .lit (.int .i64 x482001), .row 1 x482002.length false (ints .i64 x482002)], .bx 28 [.lit (.int .i64 x900001000), .lit (.int .i64 x900001001), .row 1 x496002.length false (ints .i64 x496002)], .bx 28 [.lit (.int .i64 x531000), .lit (.int .i64 x531001), .own 6 x531002.length], .sl 3 1 x236.length false (ints .i64 x236), .sl 3 1 x35.length false (ints .i64 x35), .sl 3 1 x38.length false (ints .i64 x38), .sl 3 1 x531002.length false (ints .i64 x531002)] ∧ laws_FnMeetsOfBiorders.l2 kk x30 x236 x35 x37 x38 x236 x237 x238 x531000 x531001 x531002 = some true) (k := k47)
                        ⟨_, _, ⟨Nat.le_refl _, _, _, _, _, _, _, _, _, _, _, _, _, _, _, rfl, rfl, h⟩, IsPart.at [(3, 1)] [0, 1, 2, 3, 4, 6, 5] base0 (H.c (H.c (H.c (H.c (H.c (H.c (H.c .nil))))))) (E.c (E.c (E.c (E.c (E.c (E.c (E.c (E.c (E.c (E.c (E.c .nil)))))))))))⟩ ?_
                       clear h
                       rintro k50 e H ⟨hk51, x30, x236, x35, x37, x38, x237, x238, x482000, x482001, x900001000, x900001001, x531000, x531001, x531002, rfl, rfl, h⟩
                       cases k50 with
                       | zero => exact absurd h (by simp [laws_FnMeetsOfBiorders.l2])
                       | succ k50 =>
                       simp only [laws_FnMeetsOfBiorders.l2] at h
                       refine AWp.seq ?_
                       refine AWp.region ?_
                       refine L.Y Y.bin ?_
                       refine AList.nil ?_
                       refine AWp.seq ?_
                       refine W.cond (fun hb => ?_) (fun hb => ?_)
                       ·
                        have hb52 := hb
                        try simp only [hS, hE, ne_eq] at hb
                        first | rw [if_pos hb52] at h | rw [if_neg (Bool.eq_false_iff.1 hb52)] at h | rw [if_pos hb] at h | rw [if_neg hb] at h | (simp only [hb, hT, reduceIte] at h) | skip
                        repeat (first | (rw [iN] at h; obtain ⟨_, h⟩ := h) | (rw [iP] at h; obtain ⟨_, h⟩ := h) | (simp only [bS] at h))
                        refine AWp.skip ?_
                        refine AWp.seq ?_
                        refine AWp.block ?_
                        refine AWp.seq ?_
                        refine AWp.region ?_
                        refine L.Y Y.mv ?_
                        refine L.Y (Y.ixo Try.underlying22 Y3) ?_
                        refine L.S (S.ld Try.underlying3) ?_
                        refine L.Y Y.asg ?_
                        refine L.Y Y.asg ?_
                        refine AList.nil ?_
                        refine AWp.seq ?_
                        refine AWp.region ?_
                        refine L.Y Y.mv ?_
                        refine L.Y Y.mv ?_
                        refine L.Y Y.bin ?_
                        refine AList.nil ?_
                        refine W.cond (fun hb => ?_) (fun hb => ?_)
                        ·
                         have hb53 := hb
                         try simp only [hS, hE, ne_eq] at hb
                         first | rw [if_pos hb53] at h | rw [if_neg (Bool.eq_false_iff.1 hb53)] at h | rw [if_pos hb] at h | rw [if_neg hb] at h | (simp only [hb, hT, reduceIte] at h) | skip
                         repeat (first | (rw [iN] at h; obtain ⟨_, h⟩ := h) | (rw [iP] at h; obtain ⟨_, h⟩ := h) | (simp only [bS] at h))
                         refine W.kp [5, 14, 29, 30, 31, 35, 37, 38, 39, 40, 236, 237, 238, 239, 245] ?_
                         refine AWp.region ?_
                         refine L.Y Y.mv ?_
                         refine L.Y Y.mv ?_
                         refine L.Y Y.mv ?_
                         refine L.Y (Y.ixo Try.underlying22 Y3) ?_
                         refine L.S (S.ld Try.underlying3) ?_
                         refine L.M (M.bs Try.underlying22 Y3) ?_
                         refine L.S (S.ap (nn' := false) Try.underlying22 Y3) ?_
                         refine L.Y Y.asg ?_
                         refine AList.nil ?_
                         refine W.kp [5, 14, 29, 30, 31, 35, 37, 38, 39, 40, 236, 237, 238, 239, 245] ?_
                         refine AWp.region ?_
                         refine L.Y Y.bin ?_
                         refine L.Y Y.mv ?_
                         refine AList.nil ?_
                         exact ⟨k50, by omega, _, _, ⟨by omega, _, _, _, _, _, _, _, _, _, _, _, _, _, _, rfl, rfl, h⟩, IsPart.at [] [0, 1, 2, 3, 4, 5, 6] base0 (H.c (H.c (H.c (H.c (H.c (H.c (H.c .nil))))))) (E.c (E.c (E.c (E.c (E.c (E.c (E.c (E.c (E.c (E.c (E.c .nil)))))))))))⟩
                        ·
                         have hb53 := hb
                         try simp only [hS, hE, ne_eq] at hb
                         first | rw [if_pos hb53] at h | rw [if_neg (Bool.eq_false_iff.1 hb53)] at h | rw [if_pos hb] at h | rw [if_neg hb] at h | (simp only [hb, hT, reduceIte] at h) | skip
                         refine AWp.skip ?_
                         refine W.kp [5, 14, 29, 30, 31, 35, 37, 38, 39, 40, 236, 237, 238, 239, 245] ?_
                         refine AWp.region ?_
                         refine L.Y Y.bin ?_
                         refine L.Y Y.mv ?_
                         refine AList.nil ?_
                         exact ⟨k50, by omega, _, _, ⟨by omega, _, _, _, _, _, _, _, _, _, _, _, _, _, _, rfl, rfl, h⟩, IsPart.at [] [0, 1, 2, 3, 4, 5, 6] base0 (H.c (H.c (H.c (H.c (H.c (H.c (H.c .nil))))))) (E.c (E.c (E.c (E.c (E.c (E.c (E.c (E.c (E.c (E.c (E.c .nil)))))))))))⟩
                       ·
                        have hb52 := hb
                        try simp only [hS, hE, ne_eq] at hb
                        first | rw [if_pos hb52] at h | rw [if_neg (Bool.eq_false_iff.1 hb52)] at h | rw [if_pos hb] at h | rw [if_neg hb] at h | (simp only [hb, hT, reduceIte] at h) | skip
                        refine AWp.exit ?_
                        refine AWp.seq ?_
                        refine AWp.region ?_
                        refine L.S (S.ldN Try.underlying28 Y28) ?_
                        refine L.Y Y.mv ?_
                        obtain ⟨⟨t549, t552⟩, hc54, h⟩ := Option.bind_eq_some_iff.1 h
                        dsimp only at h
                        refine L.C (C.callE (l := true) [] Try.func23 (impl_FreeOrder.ac _ _ _ _ _ _ _ hc54) .nil ?_)
                        refine L.Y Y.mv ?_
                        refine L.Y Y.ex ?_
                        refine L.Y Y.ex ?_
                        refine L.Y Y.asg ?_
                        refine L.Y Y.asg ?_
                        refine AList.nil ?_
                        refine AWp.seq ?_
                        refine W.kp [5, 14, 29, 30, 31, 35, 37, 38, 42, 236, 237, 238, 239] ?_
                        refine AWp.region ?_
                        refine L.Y Y.mv ?_
                        refine L.Y Y.nt ?_
                        refine AList.nil ?_
                        refine W.cond (fun hb => ?_) (fun hb => ?_)
                        ·
                         have hb55 := hb
                         try simp only [hS, hE, ne_eq] at hb
                         first | rw [if_pos hb55] at h | rw [if_neg (Bool.eq_false_iff.1 hb55)] at h | rw [if_pos hb] at h | rw [if_neg hb] at h | (simp only [hb, hT, reduceIte] at h) | skip
                         exfalso
                         revert h
                         exact fun h => by simp at h
                        ·
                         have hb55 := hb
                         try simp only [hS, hE, ne_eq] at hb
                         first | rw [if_pos hb55] at h | rw [if_neg (Bool.eq_false_iff.1 hb55)] at h | rw [if_pos hb] at h | rw [if_neg hb] at h | (simp only [hb, hT, reduceIte] at h) | skip
                         refine AWp.skip ?_
                         refine AWp.region ?_
                         refine L.Y Y.mv ?_
                         refine L.Y Y.bin ?_
                         refine L.Y Y.asg ?_
                         refine AList.nil ?_
                         exact ⟨k50, by omega, _, _, ⟨by omega, _, _, _, _, _, _, _, _, _, _, _, rfl, rfl, h⟩, IsPart.at [] [0, 1, 2, 3, 4, 6] base0 (H.c (H.c (H.c (H.c (H.c (H.c .nil)))))) (E.c (E.c (E.c (E.c (E.c (E.c (E.c .nil)))))))⟩
                      ·
                       have hb49 := hb
                       try simp only [hS, hE, ne_eq] at hb
                       first | rw [if_pos hb49] at h | rw [if_neg (Bool.eq_false_iff.1 hb49)] at h | rw [if_pos hb] at h | rw [if_neg hb] at h | (simp only [hb, hT, reduceIte] at h) | skip
                       refine AWp.exit ?_
                       refine AWp.seq ?_
                       refine AWp.region ?_
                       refine L.Y Y.asg ?_
                       refine AList.nil ?_
                       refine AWp.ret ?_
                       first | (exfalso; cases h; done) | exact ⟨.inr rfl, [(4, _)], _, ⟨rfl, rfl⟩, IsPart.at [] [] base0 .nil (E.c .nil (hs := Sub.litE (LV h)))⟩
                    ·
                     have hb44 := hb
                     try simp only [hS, hE, ne_eq] at hb
                     first | rw [if_pos hb44] at h | rw [if_neg (Bool.eq_false_iff.1 hb44)] at h | rw [if_pos hb] at h | rw [if_neg hb] at h | (simp only [hb, hT, reduceIte] at h) | skip
                     refine AWp.skip ?_
                     refine AWp.seq ?_
                     refine AWp.region ?_
                     refine L.Y Y.asg ?_
                     refine AList.nil ?_
                     refine AWp.ret ?_
                     first | (exfalso; cases h; done) | exact ⟨.inr rfl, [(4, _)], _, ⟨rfl, rfl⟩, IsPart.at [] [] base0 .nil (E.c .nil (hs := Sub.litE (LV h)))⟩
                ·
                 have hb35 := hb
                 try simp only [hS, hE, ne_eq] at hb
                 first | rw [if_pos hb35] at h | rw [if_neg (Bool.eq_false_iff.1 hb35)] at h | rw [if_pos hb] at h | rw [if_neg hb] at h | (simp only [hb, hT, reduceIte] at h) | skip
                 refine AWp.skip ?_
                 refine AWp.seq ?_
                 refine AWp.region ?_
                 refine L.Y Y.mv ?_
                 rcases k14 with _ | k14
                 ·
                  exact absurd h (by simp [laws_FnMeetsOfBiorders.j3])
                 simp only [laws_FnMeetsOfBiorders.j3] at h
                 obtain ⟨⟨t524, t525, t526, t529⟩, hc56, h⟩ := Option.bind_eq_some_iff.1 h
                 dsimp only at h
                 refine L.C (C.callE (l := true) [] Try.func38 (spec_DrawSplitCells.ac _ _ _ _ _ _ hc56) .nil ?_)
                 refine L.Y Y.mv ?_
                 refine L.Y Y.ex ?_
                 refine L.Y Y.ex ?_
                 refine L.M (M.al Y28) ?_
                 refine L.S (S.stb Y28) ?_
                 refine L.Y Y.asg ?_
                 refine AList.nil ?_
                 refine AWp.seq ?_
                 refine W.kp [1, 5, 6, 8, 10, 14, 21, 22, 23, 24, 25, 26, 29, 30, 97, 98, 99, 100, 186, 188] ?_
                 refine AWp.region ?_
                 refine L.S (S.ldN Try.underlying28 Y28) ?_
                 refine L.Y Y.mv ?_
                 obtain ⟨⟨t531, t534⟩, hc57, h⟩ := Option.bind_eq_some_iff.1 h
                 dsimp only at h
                 refine L.C (C.callE (l := true) [] Try.func14 (impl_SplitCells.ac _ _ _ _ _ _ _ hc57) .nil ?_)
                 refine L.Y Y.mv ?_
                 refine L.Y Y.ex ?_
                 refine L.Y Y.ex ?_
                 refine L.Y Y.asg ?_
                 refine L.Y Y.asg ?_
                 refine AList.nil ?_
                 refine AWp.seq ?_
                 refine W.kp [1, 5, 6, 8, 10, 14, 21, 22, 23, 24, 25, 26, 29, 30, 31, 32, 97, 98, 99, 100, 186, 188] ?_
                 refine AWp.region ?_
                 refine L.S (S.ldN Try.underlying28 Y28) ?_
                 refine L.Y Y.mv ?_
                 obtain ⟨⟨t535, t538⟩, hc58, h⟩ := Option.bind_eq_some_iff.1 h
                 dsimp only at h
                 refine L.C (C.callE (l := true) [] Try.func13 (spec_SplitCells.ac _ _ _ _ _ _ _ hc58) .nil ?_)
                 refine L.Y Y.mv ?_
                 refine L.Y Y.ex ?_
                 refine L.Y Y.ex ?_
                 refine L.Y Y.asg ?_
                 refine L.Y Y.asg ?_
                 refine AList.nil ?_
                 refine AWp.seq ?_
                 refine AWp.seq ?_
                 refine W.kp [1, 5, 6, 8, 10, 14, 21, 22, 23, 24, 25, 26, 29, 30, 31, 32, 33, 34, 97, 98, 99, 100, 186, 188] ?_
                 refine AWp.region ?_
                 refine L.Y Y.mv ?_
                 refine L.Y Y.mv ?_
                 refine L.Y (Y.bb Try.underlying4) ?_
                 refine L.Y Y.mv ?_
                 refine L.Gc (fun hb => ?_) (fun hb => ?_)
                 ·
                  have hb59 := hb
                  try simp only [hS, hE, ne_eq] at hb
                  first | rw [if_pos hb59] at h | rw [if_neg (Bool.eq_false_iff.1 hb59)] at h | rw [if_pos hb] at h | rw [if_neg hb] at h | (simp only [hb, hT, reduceIte] at h) | skip
                  exfalso
                  revert h
                  exact fun h => by cases k14 <;> simp [laws_FnMeetsOfBiorders.j4] at h
                 ·
                  have hb59 := hb
                  try simp only [hS, hE, ne_eq] at hb
                  first | rw [if_pos hb59] at h | rw [if_neg (Bool.eq_false_iff.1 hb59)] at h | rw [if_pos hb] at h | rw [if_neg hb] at h | (simp only [hb, hT, reduceIte] at h) | skip
                  refine L.Gy hb59 Y.mv ?_
                  refine L.Gy hb59 Y.mv ?_
                  obtain ⟨t539, hc60, h⟩ := Option.bind_eq_some_iff.1 h
                  refine L.GC hb59 (C.callE (l := true) [] Try.func26 (laws_vSame.ac _ _ _ _ hc60) .nil ?_)
                  refine L.Gy hb59 Y.nt ?_
                  refine L.Y (Y.pk (c := false) hb59) ?_
                  refine AList.nil ?_
                  rcases k14 with _ | k14
                  ·
                   exact absurd h (by simp [laws_FnMeetsOfBiorders.j4])
                  simp only [laws_FnMeetsOfBiorders.j4] at h
                  refine W.cond (fun hb => ?_) (fun hb => ?_)
                  ·
                   have hb61 := hb
                   try simp only [hS, hE, ne_eq] at hb
                   first | rw [if_pos hb61] at h | rw [if_neg (Bool.eq_false_iff.1 hb61)] at h | rw [if_pos hb] at h | rw [if_neg hb] at h | (simp only [hb, hT, reduceIte] at h) | skip
                   exfalso
                   revert h
                   exact fun h => by simp at h
                  ·
                   have hb61 := hb
                   try simp only [hS, hE, ne_eq] at hb
                   first | rw [if_pos hb61] at h | rw [if_neg (Bool.eq_false_iff.1 hb61)] at h | rw [if_pos hb] at h | rw [if_neg hb] at h | (simp only [hb, hT, reduceIte] at h) | skip
                   refine AWp.skip ?_
                   refine AWp.seq ?_
                   refine AWp.seq ?_
                   refine W.kp [1, 5, 6, 8, 10, 14, 21, 22, 23, 24, 25, 26, 29, 30, 31, 32, 33, 34, 97, 98, 99, 100, 186, 188, 222] ?_
                   refine AWp.region ?_
                   refine L.Y Y.mv ?_
                   refine AList.nil ?_
                   refine W.cond (fun hb => ?_) (fun hb => ?_)
                   ·
                    have hb62 := hb
                    try simp only [hS, hE, ne_eq] at hb
                    first | rw [if_pos hb62] at h | rw [if_neg (Bool.eq_false_iff.1 hb62)] at h | rw [if_pos hb] at h | rw [if_neg hb] at h | (simp only [hb, hT, reduceIte] at h) | skip
                    refine AWp.seq ?_
                    refine AWp.region ?_
                    refine L.S (S.ldN Try.underlying28 Y28) ?_
                    obtain ⟨⟨t540, t543⟩, hc63, h⟩ := Option.bind_eq_some_iff.1 h
                    dsimp only at h
                    refine L.C (C.callE (l := true) [] Try.func37 (impl_EmptyCells.ac _ _ _ _ _ _ hc63) .nil ?_)
                    refine L.Y Y.mv ?_
                    refine L.Y Y.ex ?_
                    refine L.Y Y.ex ?_
                    refine L.Y Y.asg ?_
                    refine L.Y Y.asg ?_
                    refine AList.nil ?_
                    refine AWp.seq ?_
                    refine AWp.seq ?_
                    refine W.kp [1, 5, 6, 8, 10, 14, 21, 22, 23, 24, 25, 26, 29, 30, 31, 32, 33, 34, 35, 36, 97, 98, 99, 100, 186, 188, 222, 223] ?_
                    refine AWp.region ?_
                    refine L.Y Y.mv ?_
                    refine L.Y Y.nt ?_
                    refine AList.nil ?_
                    refine W.cond (fun hb => ?_) (fun hb => ?_)
                    ·
                     have hb64 := hb
                     try simp only [hS, hE, ne_eq] at hb
                     first | rw [if_pos hb64] at h | rw [if_neg (Bool.eq_false_iff.1 hb64)] at h | rw [if_pos hb] at h | rw [if_neg hb] at h | (simp only [hb, hT, reduceIte] at h) | skip
                     exfalso
                     revert h
                     exact fun h => by simp at h
                    ·
                     have hb64 := hb
                     try simp only [hS, hE, ne_eq] at hb
                     first | rw [if_pos hb64] at h | rw [if_neg (Bool.eq_false_iff.1 hb64)] at h | rw [if_pos hb] at h | rw [if_neg hb] at h | (simp only [hb, hT, reduceIte] at h) | skip
                     refine AWp.skip ?_
                     refine AWp.seq ?_
                     refine AWp.region ?_
                     refine L.Y Y.asg ?_
                     refine AList.nil ?_
                     refine AWp.block ?_
                     refine AWp.loopI (fun kk e H => kk ≤ k14 ∧ ∃ (x30 : Int) (x31 : List Int) (x35 : List Int) (x37 : Int) (x482000 : Int) (x482001 : Int) (x900003000 : Int) (x900003001 : Int) (x531000 : Int) (x531001 : Int) (x531002 : List Int), e = [(5, .ptr 0 0), (14, .ptr 1 0), (29, .ptr 2 0), (30, .lit (.int .i64 x30)), (31, .own 3 x31.length), (35, .own 4 x35.length), (37, .lit (.int .i64 x37))] ∧ H = [.bx 28 [.lit (.int .i64 x482000), .lit (.int .i64 x482001), .row 1 x482002.length false (ints .i64 x482002)], .bx 28 [.lit (.int .i64 x900003000), .lit (.int .i64 x900003001), .row 1 x496002.length false (ints .i64 x496002)], .bx 28 [.lit (.int .i64 x531000), .lit (.int .i64 x531001), .own 5 x531002.length], .sl 3 1 x31.length false (ints .i64 x31), .sl 3 1 x35.length false (ints .i64 x35), .sl 3 1 x531002.length false (ints .i64 x531002)] ∧ laws_FnMeetsOfBiorders.l1 kk x30 x31 x35 x37 x531000 x531001 x531002 = some true) (k := k14)
                      ⟨_, _, ⟨Nat.le_refl _, _, _, _, _, _, _, _, _, _, _, _, rfl, rfl, h⟩, IsPart.at [] [0, 3, 7, 8, 10, 6] base0 (H.c (H.c (H.c (H.c (H.c (H.c .nil)))))) (E.c (E.c (E.c (E.c (E.c (E.c (E.c .nil)))))))⟩ ?_
                     clear h
                     rintro k65 e H ⟨hk66, x30, x31, x35, x37, x482000, x482001, x900003000, x900003001, x531000, x531001, x531002, rfl, rfl, h⟩
                     cases k65 with
                     | zero => exact absurd h (by simp [laws_FnMeetsOfBiorders.l1])
                     | succ k65 =>
                     simp only [laws_FnMeetsOfBiorders.l1] at h
                     refine AWp.seq ?_
                     refine AWp.seq ?_
                     refine AWp.region ?_
                     refine L.Y Y.mv ?_
                     refine L.Y Y.mv ?_
                     refine L.Y Y.bin ?_
                     refine AList.nil ?_
                     refine W.cond (fun hb => ?_) (fun hb => ?_)
                     ·
                      have hb67 := hb
                      try simp only [hS, hE, ne_eq] at hb
                      first | rw [if_pos hb67] at h | rw [if_neg (Bool.eq_false_iff.1 hb67)] at h | rw [if_pos hb] at h | rw [if_neg hb] at h | (simp only [hb, hT, reduceIte] at h) | skip
                      refine AWp.skip ?_
                      refine AWp.seq ?_
                      refine AWp.block ?_
                      refine AWp.seq ?_
                      refine AWp.region ?_
                      refine L.Y Y.asg ?_
                      refine AList.nil ?_
                      refine AWp.seq ?_
                      refine AWp.seq ?_
                      refine AWp.region ?_
                      refine L.Y Y.mv ?_
                      refine L.Y (Y.ln Try.underlying22) ?_
                      refine L.Y Y.mv ?_
                      refine AList.nil ?_
                      refine AWp.block ?_
                      refine AWp.loopI (fun kk e H => kk ≤ k65 ∧ ∃ (x30 : Int) (x236 : List Int) (x35 : List Int) (x37 : Int) (x38 : List Int) (x237 : Int) (x238 : Int) (x482000 : Int) (x482001 : Int) (x900001000 : Int) (x900001001 : Int) (x531000 : Int) (x531001 : Int) (x531002 : List Int), e = [(5, .ptr 0 0), (14, .ptr 1 0), (29, .ptr 2 0), (30, .lit (.int .i64 x30)), (31, .own 3 x236.length), (35, .own 4 x35.length), (37, .lit (.int .i64 x37)), (38, .own 5 x38.length), (236, .own 3 x236.length), (237, .lit (.int .i64 x237)), (238, .lit (.int .i64 x238))] ∧ H = [.bx 28 [.lit (.int .i64 x482000), .lit (.int .i64 x482001), .row 1 x482002.length false (ints .i64 x482002)], .bx 28 [.lit (.int .i64 x900001000), .lit (.int .i64 x900001001), .row 1 x496002.length false (ints .i64 x496002)], .bx 28 [.lit (.int .i64 x531000), .lit (.int .i64 x531001), .own 6 x531002.length], .sl 3 1 x236.length false (ints .i64 x236), .sl 3 1 x35.length false (ints .i64 x35), .sl 3 1 x38.length false (ints .i64 x38), .sl 3 1 x531002.length false (ints .i64 x531002)] ∧ laws_FnMeetsOfBiorders.l2 kk x30 x236 x35 x37 x38 x236 x237 x238 x531000 x531001 x531002 = some true) (k := k65)
                       ⟨_, _, ⟨Nat.le_refl _, _, _, _, _, _, _, _, _, _, _, _, _, _, _, rfl, rfl, h⟩, IsPart.at [(3, 1)] [0, 1, 2, 3, 4, 6, 5] base0 (H.c (H.c (H.c (H.c (H.c (H.c (H.c .nil))))))) (E.c (E.c (E.c (E.c (E.c (E.c (E.c (E.c (E.c (E.c (E.c .nil)))))))))))⟩ ?_
                      clear h
                      rintro k68 e H ⟨hk69, x30, x236, x35, x37, x38, x237, x238, x482000, x482001, x900001000, x900001001, x531000, x531001, x531002, rfl, rfl, h⟩
                      cases k68 with
                      | zero => exact absurd h (by simp [laws_FnMeetsOfBiorders.l2])
                      | succ k68 =>
                      simp only [laws_FnMeetsOfBiorders.l2] at h
                      refine AWp.seq ?_
                      refine AWp.region ?_
                      refine L.Y Y.bin ?_
                      refine AList.nil ?_
                      refine AWp.seq ?_
                      refine W.cond (fun hb => ?_) (fun hb => ?_)
                      ·
                       have hb70 := hb
                       try simp only [hS, hE, ne_eq] at hb
                       first | rw [if_pos hb70] at h | rw [if_neg (Bool.eq_false_iff.1 hb70)] at h | rw [if_pos hb] at h | rw [if_neg hb] at h | (simp only [hb, hT, reduceIte] at h) | skip
                       repeat (first | (rw [iN] at h; obtain ⟨_, h⟩ := h) | (rw [iP] at h; obtain ⟨_, h⟩ := h) | (simp only [bS] at h))
                       refine AWp.skip ?_
                       refine AWp.seq ?_
                       refine AWp.block ?_
                       refine AWp.seq ?_
                       refine AWp.region ?_
                       refine L.Y Y.mv ?_
                       refine L.Y (Y.ixo Try.underlying22 Y3) ?_
                       refine L.S (S.ld Try.underlying3) ?_
                       refine L.Y Y.asg ?_
                       refine L.Y Y.asg ?_
                       refine AList.nil ?_
                       refine AWp.seq ?_
                       refine AWp.region ?_
                       refine L.Y Y.mv ?_
                       refine L.Y Y.mv ?_
                       refine L.Y Y.bin ?_
                       refine AList.nil ?_
                       refine W.cond (fun hb => ?_) (fun hb => ?_)
                       ·
                        have hb71 := hb
                        try simp only [hS, hE, ne_eq] at hb
                        first | rw [if_pos hb71] at h | rw [if_neg (Bool.eq_false_iff.1 hb71)] at h | rw [if_pos hb] at h | rw [if_neg hb] at h | (simp only [hb, hT, reduceIte] at h) | skip
                        repeat (first | (rw [iN] at h; obtain ⟨_, h⟩ := h) | (rw [iP] at h; obtain ⟨_, h⟩ := h) | (simp only [bS] at h))
                        refine W.kp [5, 14, 29, 30, 31, 35, 37, 38, 39, 40, 236, 237, 238, 239, 245] ?_
                        refine AWp.region ?_
                        refine L.Y Y.mv ?_
                        refine L.Y Y.mv ?_
                        refine L.Y Y.mv ?_
                        refine L.Y (Y.ixo Try.underlying22 Y3) ?_
                        refine L.S (S.ld Try.underlying3) ?_
                        refine L.M (M.bs Try.underlying22 Y3) ?_
                        refine L.S (S.ap (nn' := false) Try.underlying22 Y3) ?_
                        refine L.Y Y.asg ?_
                        refine AList.nil ?_
                        refine W.kp [5, 14, 29, 30, 31, 35, 37, 38, 39, 40, 236, 237, 238, 239, 245] ?_
                        refine AWp.region ?_
                        refine L.Y Y.bin ?_
                        refine L.Y Y.mv ?_
                        refine AList.nil ?_
                        exact ⟨k68, by omega, _, _, ⟨by omega, _, _, _, _, _, _, _, _, _, _, _, _, _, _, rfl, rfl, h⟩, IsPart.at [] [0, 1, 2, 3, 4, 5, 6] base0 (H.c (H.c (H.c (H.c (H.c (H.c (H.c .nil))))))) (E.c (E.c (E.c (E.c (E.c (E.c (E.c (E.c (E.c (E.c (E.c .nil)))))))))))⟩
                       ·
                        have hb71 := hb
                        try simp only [hS, hE, ne_eq] at hb
                        first | rw [if_pos hb71] at h | rw [if_neg (Bool.eq_false_iff.1 hb71)] at h | rw [if_pos hb] at h | rw [if_neg hb] at h | (simp only [hb, hT, reduceIte] at h) | skip
                        refine AWp.skip ?_
                        refine W.kp [5, 14, 29, 30, 31, 35, 37, 38, 39, 40, 236, 237, 238, 239, 245] ?_
                        refine AWp.region ?_
                        refine L.Y Y.bin ?_
                        refine L.Y Y.mv ?_
                        refine AList.nil ?_
                        exact ⟨k68, by omega, _, _, ⟨by omega, _, _, _, _, _, _, _, _, _, _, _, _, _, _, rfl, rfl, h⟩, IsPart.at [] [0, 1, 2, 3, 4, 5, 6] base0 (H.c (H.c (H.c (H.c (H.c (H.c (H.c .nil))))))) (E.c (E.c (E.c (E.c (E.c (E.c (E.c (E.c (E.c (E.c (E.c .nil)))))))))))⟩
                      ·
                       have hb70 := hb
                       try simp only [hS, hE, ne_eq] at hb
                       first | rw [if_pos hb70] at h | rw [if_neg (Bool.eq_false_iff.1 hb70)] at h | rw [if_pos hb] at h | rw [if_neg hb] at h | (simp only [hb, hT, reduceIte] at h) | skip
                       refine AWp.exit ?_
                       refine AWp.seq ?_
                       refine AWp.region ?_
                       refine L.S (S.ldN Try.underlying28 Y28) ?_
                       refine L.Y Y.mv ?_
                       obtain ⟨⟨t549, t552⟩, hc72, h⟩ := Option.bind_eq_some_iff.1 h
                       dsimp only at h
                       refine L.C (C.callE (l := true) [] Try.func23 (impl_FreeOrder.ac _ _ _ _ _ _ _ hc72) .nil ?_)
                       refine L.Y Y.mv ?_
                       refine L.Y Y.ex ?_
                       refine L.Y Y.ex ?_
                       refine L.Y Y.asg ?_
                       refine L.Y Y.asg ?_
                       refine AList.nil ?_
                       refine AWp.seq ?_
                       refine W.kp [5, 14, 29, 30, 31, 35, 37, 38, 42, 236, 237, 238, 239] ?_
                       refine AWp.region ?_
                       refine L.Y Y.mv ?_
                       refine L.Y Y.nt ?_
                       refine AList.nil ?_
                       refine W.cond (fun hb => ?_) (fun hb => ?_)
                       ·
                        have hb73 := hb
                        try simp only [hS, hE, ne_eq] at hb
                        first | rw [if_pos hb73] at h | rw [if_neg (Bool.eq_false_iff.1 hb73)] at h | rw [if_pos hb] at h | rw [if_neg hb] at h | (simp only [hb, hT, reduceIte] at h) | skip
                        exfalso
                        revert h
                        exact fun h => by simp at h
                       ·
                        have hb73 := hb
                        try simp only [hS, hE, ne_eq] at hb
                        first | rw [if_pos hb73] at h | rw [if_neg (Bool.eq_false_iff.1 hb73)] at h | rw [if_pos hb] at h | rw [if_neg hb] at h | (simp only [hb, hT, reduceIte] at h) | skip
                        refine AWp.skip ?_
                        refine AWp.region ?_
                        refine L.Y Y.mv ?_
                        refine L.Y Y.bin ?_
                        refine L.Y Y.asg ?_
                        refine AList.nil ?_
                        exact ⟨k68, by omega, _, _, ⟨by omega, _, _, _, _, _, _, _, _, _, _, _, rfl, rfl, h⟩, IsPart.at [] [0, 1, 2, 3, 4, 6] base0 (H.c (H.c (H.c (H.c (H.c (H.c .nil)))))) (E.c (E.c (E.c (E.c (E.c (E.c (E.c .nil)))))))⟩
                     ·
                      have hb67 := hb
                      try simp only [hS, hE, ne_eq] at hb
                      first | rw [if_pos hb67] at h | rw [if_neg (Bool.eq_false_iff.1 hb67)] at h | rw [if_pos hb] at h | rw [if_neg hb] at h | (simp only [hb, hT, reduceIte] at h) | skip
                      refine AWp.exit ?_
                      refine AWp.seq ?_
                      refine AWp.region ?_
                      refine L.Y Y.asg ?_
                      refine AList.nil ?_
                      refine AWp.ret ?_
                      first | (exfalso; cases h; done) | exact ⟨.inr rfl, [(4, _)], _, ⟨rfl, rfl⟩, IsPart.at [] [] base0 .nil (E.c .nil (hs := Sub.litE (LV h)))⟩
                   ·
                    have hb62 := hb
                    try simp only [hS, hE, ne_eq] at hb
                    first | rw [if_pos hb62] at h | rw [if_neg (Bool.eq_false_iff.1 hb62)] at h | rw [if_pos hb] at h | rw [if_neg hb] at h | (simp only [hb, hT, reduceIte] at h) | skip
                    refine AWp.skip ?_
                    refine AWp.seq ?_
                    refine AWp.region ?_
                    refine L.Y Y.asg ?_
                    refine AList.nil ?_
                    refine AWp.ret ?_
                    first | (exfalso; cases h; done) | exact ⟨.inr rfl, [(4, _)], _, ⟨rfl, rfl⟩, IsPart.at [] [] base0 .nil (E.c .nil (hs := Sub.litE (LV h)))⟩
       ·
        have hb13 := hb
        try simp only [hS, hE, ne_eq] at hb
        first | rw [if_pos hb13] at h | rw [if_neg (Bool.eq_false_iff.1 hb13)] at h | rw [if_pos hb] at h | rw [if_neg hb] at h | (simp only [hb, hT, reduceIte] at h) | skip
        refine AWp.skip ?_
        refine AWp.seq ?_
        refine AWp.region ?_
        refine L.Y Y.mv ?_
        rcases k with _ | k
        ·
         exact absurd h (by simp [laws_FnMeetsOfBiorders.j3])
        simp only [laws_FnMeetsOfBiorders.j3] at h
        obtain ⟨⟨t524, t525, t526, t529⟩, hc74, h⟩ := Option.bind_eq_some_iff.1 h
        dsimp only at h
        refine L.C (C.callE (l := true) [] Try.func38 (spec_DrawSplitCells.ac _ _ _ _ _ _ hc74) .nil ?_)
        refine L.Y Y.mv ?_
        refine L.Y Y.ex ?_
        refine L.Y Y.ex ?_
        refine L.M (M.al Y28) ?_
        refine L.S (S.stb Y28) ?_
        refine L.Y Y.asg ?_
        refine AList.nil ?_
        refine AWp.seq ?_
        refine W.kp [0, 1, 4, 5, 6, 7, 8, 9, 10, 11, 12, 13, 29, 30, 45, 92, 93] ?_
        refine AWp.region ?_
        refine L.S (S.ldN Try.underlying28 Y28) ?_
        refine L.Y Y.mv ?_
        obtain ⟨⟨t531, t534⟩, hc75, h⟩ := Option.bind_eq_some_iff.1 h
        dsimp only at h
        refine L.C (C.callE (l := true) [] Try.func14 (impl_SplitCells.ac _ _ _ _ _ _ _ hc75) .nil ?_)
        refine L.Y Y.mv ?_
        refine L.Y Y.ex ?_
        refine L.Y Y.ex ?_
        refine L.Y Y.asg ?_
        refine L.Y Y.asg ?_
        refine AList.nil ?_
        refine AWp.seq ?_
        refine W.kp [0, 1, 4, 5, 6, 7, 8, 9, 10, 11, 12, 13, 29, 30, 31, 32, 45, 92, 93] ?_
        refine AWp.region ?_
        refine L.S (S.ldN Try.underlying28 Y28) ?_
        refine L.Y Y.mv ?_
        obtain ⟨⟨t535, t538⟩, hc76, h⟩ := Option.bind_eq_some_iff.1 h
        dsimp only at h
        refine L.C (C.callE (l := true) [] Try.func13 (spec_SplitCells.ac _ _ _ _ _ _ _ hc76) .nil ?_)
        refine L.Y Y.mv ?_
        refine L.Y Y.ex ?_
        refine L.Y Y.ex ?_
        refine L.Y Y.asg ?_
        refine L.Y Y.asg ?_
        refine AList.nil ?_
        refine AWp.seq ?_
        refine AWp.seq ?_
        refine W.kp [0, 1, 4, 5, 6, 7, 8, 9, 10, 11, 12, 13, 29, 30, 31, 32, 33, 34, 45, 92, 93] ?_
        refine AWp.region ?_
        refine L.Y Y.mv ?_
        refine L.Y Y.mv ?_
        refine L.Y (Y.bb Try.underlying4) ?_
        refine L.Y Y.mv ?_
        refine L.Gc (fun hb => ?_) (fun hb => ?_)
        ·
         have hb77 := hb
         try simp only [hS, hE, ne_eq] at hb
         first | rw [if_pos hb77] at h | rw [if_neg (Bool.eq_false_iff.1 hb77)] at h | rw [if_pos hb] at h | rw [if_neg hb] at h | (simp only [hb, hT, reduceIte] at h) | skip
         exfalso
         revert h
         exact fun h => by cases k <;> simp [laws_FnMeetsOfBiorders.j4] at h
        ·
         have hb77 := hb
         try simp only [hS, hE, ne_eq] at hb
         first | rw [if_pos hb77] at h | rw [if_neg (Bool.eq_false_iff.1 hb77)] at h | rw [if_pos hb] at h | rw [if_neg hb] at h | (simp only [hb, hT, reduceIte] at h) | skip
         refine L.Gy hb77 Y.mv ?_
         refine L.Gy hb77 Y.mv ?_
         obtain ⟨t539, hc78, h⟩ := Option.bind_eq_some_iff.1 h
         refine L.GC hb77 (C.callE (l := true) [] Try.func26 (laws_vSame.ac _ _ _ _ hc78) .nil ?_)
         refine L.Gy hb77 Y.nt ?_
         refine L.Y (Y.pk (c := false) hb77) ?_
         refine AList.nil ?_
         rcases k with _ | k
         ·
          exact absurd h (by simp [laws_FnMeetsOfBiorders.j4])
         simp only [laws_FnMeetsOfBiorders.j4] at h
         refine W.cond (fun hb => ?_) (fun hb => ?_)
         ·
          have hb79 := hb
          try simp only [hS, hE, ne_eq] at hb
          first | rw [if_pos hb79] at h | rw [if_neg (Bool.eq_false_iff.1 hb79)] at h | rw [if_pos hb] at h | rw [if_neg hb] at h | (simp only [hb, hT, reduceIte] at h) | skip
          exfalso
          revert h
          exact fun h => by simp at h
         ·
          have hb79 := hb
          try simp only [hS, hE, ne_eq] at hb
          first | rw [if_pos hb79] at h | rw [if_neg (Bool.eq_false_iff.1 hb79)] at h | rw [if_pos hb] at h | rw [if_neg hb] at h | (simp only [hb, hT, reduceIte] at h) | skip
          refine AWp.skip ?_
          refine AWp.seq ?_
          refine AWp.seq ?_
          refine W.kp [0, 1, 4, 5, 6, 7, 8, 9, 10, 11, 12, 13, 29, 30, 31, 32, 33, 34, 45, 92, 93, 222] ?_
          refine AWp.region ?_
          refine L.Y Y.mv ?_
          refine AList.nil ?_
          refine W.cond (fun hb => ?_) (fun hb => ?_)
          ·
           have hb80 := hb
           try simp only [hS, hE, ne_eq] at hb
           first | rw [if_pos hb80] at h | rw [if_neg (Bool.eq_false_iff.1 hb80)] at h | rw [if_pos hb] at h | rw [if_neg hb] at h | (simp only [hb, hT, reduceIte] at h) | skip
           refine AWp.seq ?_
           refine AWp.region ?_
           refine L.S (S.ldN Try.underlying28 Y28) ?_
           obtain ⟨⟨t540, t543⟩, hc81, h⟩ := Option.bind_eq_some_iff.1 h
           dsimp only at h
           refine L.C (C.callE (l := true) [] Try.func37 (impl_EmptyCells.ac _ _ _ _ _ _ hc81) .nil ?_)
           refine L.Y Y.mv ?_
           refine L.Y Y.ex ?_
           refine L.Y Y.ex ?_
           refine L.Y Y.asg ?_
           refine L.Y Y.asg ?_
           refine AList.nil ?_
           refine AWp.seq ?_
           refine AWp.seq ?_
           refine W.kp [0, 1, 4, 5, 6, 7, 8, 9, 10, 11, 12, 13, 29, 30, 31, 32, 33, 34, 35, 36, 45, 92, 93, 222, 223] ?_
           refine AWp.region ?_
           refine L.Y Y.mv ?_
           refine L.Y Y.nt ?_
           refine AList.nil ?_
           refine W.cond (fun hb => ?_) (fun hb => ?_)
           ·
            have hb82 := hb
            try simp only [hS, hE, ne_eq] at hb
            first | rw [if_pos hb82] at h | rw [if_neg (Bool.eq_false_iff.1 hb82)] at h | rw [if_pos hb] at h | rw [if_neg hb] at h | (simp only [hb, hT, reduceIte] at h) | skip
            exfalso
            revert h
            exact fun h => by simp at h
           ·
            have hb82 := hb
            try simp only [hS, hE, ne_eq] at hb
            first | rw [if_pos hb82] at h | rw [if_neg (Bool.eq_false_iff.1 hb82)] at h | rw [if_pos hb] at h | rw [if_neg hb] at h | (simp only [hb, hT, reduceIte] at h) | skip
            refine AWp.skip ?_
            refine AWp.seq ?_
            refine AWp.region ?_
            refine L.Y Y.asg ?_
            refine AList.nil ?_
            refine AWp.block ?_
            refine AWp.loopI (fun kk e H => kk ≤ k ∧ ∃ (x30 : Int) (x31 : List Int) (x35 : List Int) (x37 : Int) (x482000 : Int) (x482001 : Int) (x482002 : List Int) (x531000 : Int) (x531001 : Int) (x531002 : List Int), e = [(5, .ptr 0 0), (29, .ptr 1 0), (30, .lit (.int .i64 x30)), (31, .own 2 x31.length), (35, .own 3 x35.length), (37, .lit (.int .i64 x37))] ∧ H = [.bx 28 [.lit (.int .i64 x482000), .lit (.int .i64 x482001), .row 1 x482002.length false (ints .i64 x482002)], .bx 28 [.lit (.int .i64 x531000), .lit (.int .i64 x531001), .own 4 x531002.length], .sl 3 1 x31.length false (ints .i64 x31), .sl 3 1 x35.length false (ints .i64 x35), .sl 3 1 x531002.length false (ints .i64 x531002)] ∧ laws_FnMeetsOfBiorders.l1 kk x30 x31 x35 x37 x531000 x531001 x531002 = some true) (k := k)
             ⟨_, _, ⟨Nat.le_refl _, _, _, _, _, _, _, _, _, _, _, rfl, rfl, h⟩, IsPart.at [] [1, 5, 6, 8, 4] base0 (H.c (H.c (H.c (H.c (H.c .nil))))) (E.c (E.c (E.c (E.c (E.c (E.c .nil))))))⟩ ?_
            clear h
            rintro k83 e H ⟨hk84, x30, x31, x35, x37, x482000, x482001, x482002, x531000, x531001, x531002, rfl, rfl, h⟩
            cases k83 with
            | zero => exact absurd h (by simp [laws_FnMeetsOfBiorders.l1])
            | succ k83 =>
            simp only [laws_FnMeetsOfBiorders.l1] at h
            refine AWp.seq ?_
            refine AWp.seq ?_
            refine AWp.region ?_
            refine L.Y Y.mv ?_
            refine L.Y Y.mv ?_
            refine L.Y Y.bin ?_
            refine AList.nil ?_
            refine W.cond (fun hb => ?_) (fun hb => ?_)
            ·
             have hb85 := hb
             try simp only [hS, hE, ne_eq] at hb
             first | rw [if_pos hb85] at h | rw [if_neg (Bool.eq_false_iff.1 hb85)] at h | rw [if_pos hb] at h | rw [if_neg hb] at h | (simp only [hb, hT, reduceIte] at h) | skip
             refine AWp.skip ?_
             refine AWp.seq ?_
             refine AWp.block ?_
             refine AWp.seq ?_
             refine AWp.region ?_
             refine L.Y Y.asg ?_
             refine AList.nil ?_
             refine AWp.seq ?_
             refine AWp.seq ?_
             refine AWp.region ?_
             refine L.Y Y.mv ?_
             refine L.Y (Y.ln Try.underlying22) ?_
             refine L.Y Y.mv ?_
             refine AList.nil ?_
             refine AWp.block ?_
             refine AWp.loopI (fun kk e H => kk ≤ k83 ∧ ∃ (x30 : Int) (x236 : List Int) (x35 : List Int) (x37 : Int) (x38 : List Int) (x237 : Int) (x238 : Int) (x482000 : Int) (x482001 : Int) (x531000 : Int) (x531001 : Int) (x531002 : List Int), e = [(5, .ptr 0 0), (29, .ptr 1 0), (30, .lit (.int .i64 x30)), (31, .own 2 x236.length), (35, .own 3 x35.length), (37, .lit (.int .i64 x37)), (38, .own 4 x38.length), (236, .own 2 x236.length), (237, .lit (.int .i64 x237)), (238, .lit (.int .i64 x238))] ∧ H = [.bx 28 [.lit (.int .i64 x482000), .lit (.int .i64 x482001), .row 1 x482002.length false (ints .i64 x482002)], .bx 28 [.lit (.int .i64 x531000), .lit (.int .i64 x531001), .own 5 x531002.length], .sl 3 1 x236.length false (ints .i64 x236), .sl 3 1 x35.length false (ints .i64 x35), .sl 3 1 x38.length false (ints .i64 x38), .sl 3 1 x531002.length false (ints .i64 x531002)] ∧ laws_FnMeetsOfBiorders.l2 kk x30 x236 x35 x37 x38 x236 x237 x238 x531000 x531001 x531002 = some true) (k := k83)
              ⟨_, _, ⟨Nat.le_refl _, _, _, _, _, _, _, _, _, _, _, _, _, rfl, rfl, h⟩, IsPart.at [(3, 1)] [0, 1, 2, 3, 5, 4] base0 (H.c (H.c (H.c (H.c (H.c (H.c .nil)))))) (E.c (E.c (E.c (E.c (E.c (E.c (E.c (E.c (E.c (E.c .nil))))))))))⟩ ?_
             clear h
             rintro k86 e H ⟨hk87, x30, x236, x35, x37, x38, x237, x238, x482000, x482001, x531000, x531001, x531002, rfl, rfl, h⟩
             cases k86 with
             | zero => exact absurd h (by simp [laws_FnMeetsOfBiorders.l2])
             | succ k86 =>
             simp only [laws_FnMeetsOfBiorders.l2] at h
             refine AWp.seq ?_
             refine AWp.region ?_
             refine L.Y Y.bin ?_
             refine AList.nil ?_
             refine AWp.seq ?_
             refine W.cond (fun hb => ?_) (fun hb => ?_)
             ·
              have hb88 := hb
              try simp only [hS, hE, ne_eq] at hb
              first | rw [if_pos hb88] at h | rw [if_neg (Bool.eq_false_iff.1 hb88)] at h | rw [if_pos hb] at h | rw [if_neg hb] at h | (simp only [hb, hT, reduceIte] at h) | skip
              repeat (first | (rw [iN] at h; obtain ⟨_, h⟩ := h) | (rw [iP] at h; obtain ⟨_, h⟩ := h) | (simp only [bS] at h))
              refine AWp.skip ?_
              refine AWp.seq ?_
              refine AWp.block ?_
              refine AWp.seq ?_
              refine AWp.region ?_
              refine L.Y Y.mv ?_
              refine L.Y (Y.ixo Try.underlying22 Y3) ?_
              refine L.S (S.ld Try.underlying3) ?_
              refine L.Y Y.asg ?_
              refine L.Y Y.asg ?_
              refine AList.nil ?_
              refine AWp.seq ?_
              refine AWp.region ?_
              refine L.Y Y.mv ?_
              refine L.Y Y.mv ?_
              refine L.Y Y.bin ?_
              refine AList.nil ?_
              refine W.cond (fun hb => ?_) (fun hb => ?_)
              ·
               have hb89 := hb
               try simp only [hS, hE, ne_eq] at hb
               first | rw [if_pos hb89] at h | rw [if_neg (Bool.eq_false_iff.1 hb89)] at h | rw [if_pos hb] at h | rw [if_neg hb] at h | (simp only [hb, hT, reduceIte] at h) | skip
               repeat (first | (rw [iN] at h; obtain ⟨_, h⟩ := h) | (rw [iP] at h; obtain ⟨_, h⟩ := h) | (simp only [bS] at h))
               refine W.kp [5, 29, 30, 31, 35, 37, 38, 39, 40, 236, 237, 238, 239, 245] ?_
               refine AWp.region ?_
               refine L.Y Y.mv ?_
               refine L.Y Y.mv ?_
               refine L.Y Y.mv ?_
               refine L.Y (Y.ixo Try.underlying22 Y3) ?_
               refine L.S (S.ld Try.underlying3) ?_
               refine L.M (M.bs Try.underlying22 Y3) ?_
               refine L.S (S.ap (nn' := false) Try.underlying22 Y3) ?_
               refine L.Y Y.asg ?_
               refine AList.nil ?_
               refine W.kp [5, 29, 30, 31, 35, 37, 38, 39, 40, 236, 237, 238, 239, 245] ?_
               refine AWp.region ?_
               refine L.Y Y.bin ?_
               refine L.Y Y.mv ?_
               refine AList.nil ?_
               exact ⟨k86, by omega, _, _, ⟨by omega, _, _, _, _, _, _, _, _, _, _, _, _, rfl, rfl, h⟩, IsPart.at [] [0, 1, 2, 3, 4, 5] base0 (H.c (H.c (H.c (H.c (H.c (H.c .nil)))))) (E.c (E.c (E.c (E.c (E.c (E.c (E.c (E.c (E.c (E.c .nil))))))))))⟩
              ·
               have hb89 := hb
               try simp only [hS, hE, ne_eq] at hb
               first | rw [if_pos hb89] at h | rw [if_neg (Bool.eq_false_iff.1 hb89)] at h | rw [if_pos hb] at h | rw [if_neg hb] at h | (simp only [hb, hT, reduceIte] at h) | skip
               refine AWp.skip ?_
               refine W.kp [5, 29, 30, 31, 35, 37, 38, 39, 40, 236, 237, 238, 239, 245] ?_
               refine AWp.region ?_
               refine L.Y Y.bin ?_
               refine L.Y Y.mv ?_
               refine AList.nil ?_
               exact ⟨k86, by omega, _, _, ⟨by omega, _, _, _, _, _, _, _, _, _, _, _, _, rfl, rfl, h⟩, IsPart.at [] [0, 1, 2, 3, 4, 5] base0 (H.c (H.c (H.c (H.c (H.c (H.c .nil)))))) (E.c (E.c (E.c (E.c (E.c (E.c (E.c (E.c (E.c (E.c .nil))))))))))⟩
             ·
              have hb88 := hb
              try simp only [hS, hE, ne_eq] at hb
              first | rw [if_pos hb88] at h | rw [if_neg (Bool.eq_false_iff.1 hb88)] at h | rw [if_pos hb] at h | rw [if_neg hb] at h | (simp only [hb, hT, reduceIte] at h) | skip
              refine AWp.exit ?_
              refine AWp.seq ?_
              refine AWp.region ?_
              refine L.S (S.ldN Try.underlying28 Y28) ?_
              refine L.Y Y.mv ?_
              obtain ⟨⟨t549, t552⟩, hc90, h⟩ := Option.bind_eq_some_iff.1 h
              dsimp only at h
              refine L.C (C.callE (l := true) [] Try.func23 (impl_FreeOrder.ac _ _ _ _ _ _ _ hc90) .nil ?_)
              refine L.Y Y.mv ?_
              refine L.Y Y.ex ?_
              refine L.Y Y.ex ?_
              refine L.Y Y.asg ?_
              refine L.Y Y.asg ?_
              refine AList.nil ?_
              refine AWp.seq ?_
              refine W.kp [5, 29, 30, 31, 35, 37, 38, 42, 236, 237, 238, 239] ?_
              refine AWp.region ?_
              refine L.Y Y.mv ?_
              refine L.Y Y.nt ?_
              refine AList.nil ?_
              refine W.cond (fun hb => ?_) (fun hb => ?_)
              ·
               have hb91 := hb
               try simp only [hS, hE, ne_eq] at hb
               first | rw [if_pos hb91] at h | rw [if_neg (Bool.eq_false_iff.1 hb91)] at h | rw [if_pos hb] at h | rw [if_neg hb] at h | (simp only [hb, hT, reduceIte] at h) | skip
               exfalso
               revert h
               exact fun h => by simp at h
              ·
               have hb91 := hb
               try simp only [hS, hE, ne_eq] at hb
               first | rw [if_pos hb91] at h | rw [if_neg (Bool.eq_false_iff.1 hb91)] at h | rw [if_pos hb] at h | rw [if_neg hb] at h | (simp only [hb, hT, reduceIte] at h) | skip
               refine AWp.skip ?_
               refine AWp.region ?_
               refine L.Y Y.mv ?_
               refine L.Y Y.bin ?_
               refine L.Y Y.asg ?_
               refine AList.nil ?_
               exact ⟨k86, by omega, _, _, ⟨by omega, _, _, _, _, _, _, _, _, _, _, rfl, rfl, h⟩, IsPart.at [] [0, 1, 2, 3, 5] base0 (H.c (H.c (H.c (H.c (H.c .nil))))) (E.c (E.c (E.c (E.c (E.c (E.c .nil))))))⟩
            ·
             have hb85 := hb
             try simp only [hS, hE, ne_eq] at hb
             first | rw [if_pos hb85] at h | rw [if_neg (Bool.eq_false_iff.1 hb85)] at h | rw [if_pos hb] at h | rw [if_neg hb] at h | (simp only [hb, hT, reduceIte] at h) | skip
             refine AWp.exit ?_
             refine AWp.seq ?_
             refine AWp.region ?_
             refine L.Y Y.asg ?_
             refine AList.nil ?_
             refine AWp.ret ?_
             first | (exfalso; cases h; done) | exact ⟨.inr rfl, [(4, _)], _, ⟨rfl, rfl⟩, IsPart.at [] [] base0 .nil (E.c .nil (hs := Sub.litE (LV h)))⟩
          ·
           have hb80 := hb
           try simp only [hS, hE, ne_eq] at hb
           first | rw [if_pos hb80] at h | rw [if_neg (Bool.eq_false_iff.1 hb80)] at h | rw [if_pos hb] at h | rw [if_neg hb] at h | (simp only [hb, hT, reduceIte] at h) | skip
           refine AWp.skip ?_
           refine AWp.seq ?_
           refine AWp.region ?_
           refine L.Y Y.asg ?_
           refine AList.nil ?_
           refine AWp.ret ?_
           first | (exfalso; cases h; done) | exact ⟨.inr rfl, [(4, _)], _, ⟨rfl, rfl⟩, IsPart.at [] [] base0 .nil (E.c .nil (hs := Sub.litE (LV h)))⟩

/-- THE ONE PURE STATEMENT of laws_FnMeetsOfBiorders: yours. -/
def laws_FnMeetsOfBiorders.Pure : Prop := ∀ (l0 : List Int) (l1 : List Int), l0.length ≤ maxLen → l0.length * 1 ≤ 140737488351232 → (∀ x ∈ l0, (Lit.int .u8 x).wf = true) → l1.length ≤ maxLen → l1.length * 1 ≤ 140737488351232 → (∀ x ∈ l1, (Lit.int .u8 x).wf = true) → ∃ k, laws_FnMeetsOfBiorders.f k l0 l1 = some true
theorem laws_FnMeetsOfBiorders.walk (P : laws_FnMeetsOfBiorders.Pure) (a0 : Option Addr) (len0 cap0 : Nat) (z0 : List Int) (a1 : Option Addr) (len1 cap1 : Nat) (z1 : List Int) (w : World) (w0 : (a0 = none ∧ len0 = 0 ∧ cap0 = 0 ∧ z0 = []) ∨ ∃ x, a0 = some x ∧ len0 ≤ cap0 ∧ cap0 ≤ maxLen ∧ z0.length = cap0 ∧ (∀ i, i < z0.length → w.cell? (x.add i) = some (.int .u8 (z0.getD i 0))) ∧ ∀ n ∈ z0, (Lit.int .u8 n).wf = true) (y0 : len0 * 1 ≤ 140737488351232) (w1 : (a1 = none ∧ len1 = 0 ∧ cap1 = 0 ∧ z1 = []) ∨ ∃ x, a1 = some x ∧ len1 ≤ cap1 ∧ cap1 ≤ maxLen ∧ z1.length = cap1 ∧ (∀ i, i < z1.length → w.cell? (x.add i) = some (.int .u8 (z1.getD i 0))) ∧ ∀ n ∈ z1, (Lit.int .u8 n).wf = true) (y1 : len1 * 1 ≤ 140737488351232) :
  Calls Try.prog 7 #[.slice a0 len0 cap0, .slice a1 len1 cap1] w fun e w' => e = .returned (.bool true) ∧ Below w.heap.size w w' := by
 obtain ⟨hl0, hv0⟩ := VR.came (A0 := fun _ => .bool false) (H := []) w0
 obtain ⟨hm0, hw0⟩ := came_fits w0
 have y0' := y0
 rw [← hl0] at y0'
 obtain ⟨hl1, hv1⟩ := VR.came (A0 := fun _ => .bool false) (H := []) w1
 obtain ⟨hm1, hw1⟩ := came_fits w1
 have y1' := y1
 rw [← hl1] at y1'
 obtain ⟨k, h⟩ := P (z0.take len0) (z1.take len1) hm0 y0' hw0 hm1 y1' hw1
 refine ACalls.law (vs := [.slice a0 len0 cap0, .slice a1 len1 cap1]) (fun p hp => by cases hp) (laws_FnMeetsOfBiorders.ac k (z0.take len0) (z1.take len1) h) ?_
 repeat' first | assumption | exact VRs_nil | exact VR_lit | refine VRs_cons ?_ ?_ | refine VR_agg ?_

end Go.Proofs.Ytpippjgphndjmaa.PFnMeetsOfBiorders
