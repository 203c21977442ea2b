-- Written by a program of this session's (wip/myprint2): the functions by the kit's print, the walks by awgen.py. Lean checks it.
import Derived.Test.YtpippjgphndjmaaPFnCoversx0
import Derived.Test.YtpippjgphndjmaaPFnCoversx1
import Derived.Test.YtpippjgphndjmaaPFnCoversx4
import Derived.Test.YtpippjgphndjmaaPFnCoversx6
import Derived.Test.YtpippjgphndjmaaPFnCoversx7
import Derived.Test.YtpippjgphndjmaaPFnCoversx8
import Derived.Test.YtpippjgphndjmaaPFnCoversx9
namespace Go.Proofs.Ytpippjgphndjmaa.PFnCovers
open Go.RowKit Go.Proofs.YtpippjgphndjmaaW.PrintWords Go.Proofs.YtpippjgphndjmaaW.PrintLast Go.Proofs.YtpippjgphndjmaaW.PrintMore Go.Proofs.YtpippjgphndjmaaM Go.Proofs.YtpippjgphndjmaaA
attribute [local go_sem] max2_int min2_int max_two min_two max_three min_three max_four min_four   -- for this text's walks alone
set_option linter.unusedVariables false
set_option linter.unusedSimpArgs false

/-! ### laws_FnCovers: function 5 -/
mutual
def laws_FnCovers.j0 : Nat → List Int → List Int → Bool → Bool → Int → Int → List Int → Int → Int → List Int → Option (Bool)
 | 0, _, _, _, _, _, _, _, _, _, _ => none
 | k + 1, x1, x6, x8, x81, x404000, x404001, x404002, x411000, x411001, x411002 => if x81 = true then (some false) else (if x8 = true then ((impl_IsBiorder.f k x411000 x411001 x411002).bind fun bt428 => ((impl_MeetTables.f k x404000 x404001 x404002 x411000 x411001 x411002).bind fun bt430 => (if bt428.2 = true then (if bt428.1 = true then (if bt430.2.2.2 = true then ((laws_vTable.f k bt430.1 bt430.2.1 bt430.2.2.1 x404000 x404001 x404002).bind fun t437 => (laws_FnCovers.j1 k x1 x6 (!t437) x404000 x404001 x404002 x411000 x411001 x411002)) else (laws_FnCovers.j1 k x1 x6 true x404000 x404001 x404002 x411000 x411001 x411002)) else (laws_FnCovers.j1 k x1 x6 true x404000 x404001 x404002 x411000 x411001 x411002)) else (laws_FnCovers.j1 k x1 x6 true x404000 x404001 x404002 x411000 x411001 x411002)))) else (some true))
def laws_FnCovers.j1 : Nat → List Int → List Int → Bool → Int → Int → List Int → Int → Int → List Int → Option (Bool)
 | 0, _, _, _, _, _, _, _, _, _ => none
 | k + 1, x1, x6, x110, x404000, x404001, x404002, x411000, x411001, x411002 => if x110 = true then (some false) else (laws_FnCovers.l0 k x1 x6 x6 (x6.length : Int) 0 x404000 x404001 x404002 x411000 x411001 x411002)
def laws_FnCovers.l0 : Nat → List Int → List Int → List Int → Int → Int → Int → Int → List Int → Int → Int → List Int → Option (Bool)
 | 0, _, _, _, _, _, _, _, _, _, _, _ => none
 | k + 1, x1, x6, x111, x112, x113, x404000, x404001, x404002, x411000, x411001, x411002 => if x113 < x112 then (if 0 ≤ x113 then (if x113 < (x111.length : Int) then ((laws_vMarked.f x411000 x411001 x411002 (rd x111 x113)).bind fun t439 => (if t439 = true then (some false) else (laws_FnCovers.l0 k x1 x6 x111 x112 (wrap64 (x113 + 1)) x404000 x404001 x404002 x411000 x411001 x411002))) else (none)) else (none)) else (if (x6.length : Int) > 0 then ((laws_vNumber.f k x1).bind fun t440 => (if (x6.length : Int) = 0 then (none) else ((some (([] : List Int) : List Int)).bind fun y441 => (if 0 ≤ (Int.tmod t440 (x6.length : Int)) then (if (Int.tmod t440 (x6.length : Int)) ≤ (x6.length : Int) then ((some (x6.take ((Int.tmod t440 (x6.length : Int)) : Int).toNat : List Int)).bind fun y444 => (if y441.length + y444.length < 17592186044416 then ((some (y441 ++ y444 : List Int)).bind fun y448 => (if 0 ≤ (wrap64 ((Int.tmod t440 (x6.length : Int)) + 1)) then (if (wrap64 ((Int.tmod t440 (x6.length : Int)) + 1)) ≤ (x6.length : Int) then ((some (x6.drop ((wrap64 ((Int.tmod t440 (x6.length : Int)) + 1)) : Int).toNat : List Int)).bind fun y451 => (if y448.length + y451.length < 17592186044416 then ((impl_FreeOrder.f k x404000 x404001 x404002 (y448 ++ y451)).bind fun bt458 => (some bt458.2)) else (none))) else (none)) else (none))) else (none))) else (none)) else (none))))) else (some true))
end
def laws_FnCovers.f (k : Nat) (l0 : List Int) (l1 : List Int) : Option (Bool) := (laws_big.f l0 l1).bind fun t394 => (if t394 = true then (some true) else ((spec_DrawCoverOf.f k l0).bind fun bt395 => ((impl_CoverOf.f k bt395.1 bt395.2.1 bt395.2.2.1 bt395.2.2.2).bind fun bt404 => ((spec_CoverOf.f k bt395.1 bt395.2.1 bt395.2.2.1 bt395.2.2.2).bind fun bt411 => ((impl_FreeOrder.f k bt395.1 bt395.2.1 bt395.2.2.1 bt395.2.2.2).bind fun bt418 => ((spec_FreeOrder.f k bt395.1 bt395.2.1 bt395.2.2.1 bt395.2.2.2).bind fun bt422 => (if (bt404.2.2.2 != bt411.2.2.2) = true then (laws_FnCovers.j0 k l1 bt395.2.2.2 bt404.2.2.2 true bt395.1 bt395.2.1 bt395.2.2.1 bt404.1 bt404.2.1 bt404.2.2.1) else ((laws_vTable.f k bt404.1 bt404.2.1 bt404.2.2.1 bt411.1 bt411.2.1 bt411.2.2.1).bind fun t426 => (if t426 = true then (if (bt418.2 != bt422.2) = true then (laws_FnCovers.j0 k l1 bt395.2.2.2 bt404.2.2.2 true bt395.1 bt395.2.1 bt395.2.2.1 bt404.1 bt404.2.1 bt404.2.2.1) else ((laws_vSame.f k bt418.1 bt422.1).bind fun t427 => (if t427 = true then (laws_FnCovers.j0 k l1 bt395.2.2.2 bt404.2.2.2 (bt404.2.2.2 != bt418.2) bt395.1 bt395.2.1 bt395.2.2.1 bt404.1 bt404.2.1 bt404.2.2.1) else (laws_FnCovers.j0 k l1 bt395.2.2.2 bt404.2.2.2 true bt395.1 bt395.2.1 bt395.2.2.1 bt404.1 bt404.2.1 bt404.2.2.1)))) else (laws_FnCovers.j0 k l1 bt395.2.2.2 bt404.2.2.2 true bt395.1 bt395.2.1 bt395.2.2.1 bt404.1 bt404.2.1 bt404.2.2.1))))))))))
set_option maxRecDepth 100000 in
set_option maxHeartbeats 20000000 in
theorem laws_FnCovers.ac (k : Nat) (l0 : List Int) (l1 : List Int)  (h : laws_FnCovers.f k l0 l1 = some true) :
  ACalls Try.prog 5 [.row 1 l0.length false (ints .u8 l0), .row 1 l1.length false (ints .u8 l1)] [] (fun v H' => v = .lit (.bool true) ∧ H' = []) := by
 refine ACalls.ofP [4] Try.func5 rfl (by exact Nat.le_of_ble_eq_true rfl) rfl (by decide) ?_
 simp only [Try.ntmps5, env0, laws_FnCovers.f] at h ⊢
 refine AWp.seq ?_
 refine AWp.region ?_
 refine L.Y Y.asg ?_
 refine AList.nil ?_
 refine AWp.seq ?_
 refine AWp.seq ?_
 refine AWp.region ?_
 refine L.Y Y.mv ?_
 refine L.Y Y.mv ?_
 obtain ⟨t394, hc1, h⟩ := Option.bind_eq_some_iff.1 h
 refine L.C (C.callE (l := true) [] Try.func19 (laws_big.ac _ _ _ hc1) .nil ?_)
 refine AList.nil ?_
 refine W.cond (fun hb => ?_) (fun hb => ?_)
 ·
  have hb2 := hb
  try simp only [hS, hE, ne_eq] at hb
  first | rw [if_pos hb2] at h | rw [if_neg (Bool.eq_false_iff.1 hb2)] at h | rw [if_pos hb] at h | rw [if_neg hb] at h | (simp only [hb, hT, reduceIte] at h) | skip
  refine AWp.seq ?_
  refine AWp.region ?_
  refine L.Y Y.asg ?_
  refine AList.nil ?_
  refine AWp.ret ?_
  first | (exfalso; cases h; done) | exact ⟨.inr rfl, [(4, _)], _, ⟨rfl, rfl⟩, IsPart.at [] [] base0 .nil (E.c .nil (hs := Sub.litE (LV h)))⟩
 ·
  have hb2 := hb
  try simp only [hS, hE, ne_eq] at hb
  first | rw [if_pos hb2] at h | rw [if_neg (Bool.eq_false_iff.1 hb2)] at h | rw [if_pos hb] at h | rw [if_neg hb] at h | (simp only [hb, hT, reduceIte] at h) | skip
  refine AWp.skip ?_
  refine AWp.seq ?_
  refine AWp.region ?_
  refine L.Y Y.mv ?_
  obtain ⟨⟨t395, t396, t397, t400⟩, hc3, h⟩ := Option.bind_eq_some_iff.1 h
  dsimp only at h
  refine L.C (C.callE (l := true) [] Try.func20 (spec_DrawCoverOf.ac _ _ _ _ _ _ hc3) .nil ?_)
  refine L.Y Y.mv ?_
  refine L.Y Y.ex ?_
  refine L.Y Y.ex ?_
  refine L.M (M.al Y28) ?_
  refine L.S (S.stb Y28) ?_
  refine L.Y Y.asg ?_
  refine AList.nil ?_
  refine AWp.seq ?_
  refine W.kp [0, 1, 4, 5, 6, 27] ?_
  refine AWp.region ?_
  refine L.S (S.ldN Try.underlying28 Y28) ?_
  refine L.Y Y.mv ?_
  obtain ⟨⟨t404, t405, t406, t409⟩, hc4, h⟩ := Option.bind_eq_some_iff.1 h
  dsimp only at h
  refine L.C (C.callE (l := true) [] Try.func21 (impl_CoverOf.ac _ _ _ _ _ _ _ _ _ hc4) .nil ?_)
  refine L.Y Y.mv ?_
  refine L.Y Y.ex ?_
  refine L.Y Y.ex ?_
  refine L.M (M.al Y28) ?_
  refine L.S (S.stb Y28) ?_
  refine L.Y Y.asg ?_
  refine AList.nil ?_
  refine AWp.seq ?_
  refine W.kp [0, 1, 4, 5, 6, 7, 8, 27] ?_
  refine AWp.region ?_
  refine L.S (S.ldN Try.underlying28 Y28) ?_
  refine L.Y Y.mv ?_
  obtain ⟨⟨t411, t412, t413, t416⟩, hc5, h⟩ := Option.bind_eq_some_iff.1 h
  dsimp only at h
  refine L.C (C.callE (l := true) [] Try.func22 (spec_CoverOf.ac _ _ _ _ _ _ _ _ _ hc5) .nil ?_)
  refine L.Y Y.mv ?_
  refine L.Y Y.ex ?_
  refine L.Y Y.ex ?_
  refine L.M (M.al Y28) ?_
  refine L.S (S.stb Y28) ?_
  refine L.Y Y.asg ?_
  refine AList.nil ?_
  refine AWp.seq ?_
  refine W.kp [0, 1, 4, 5, 6, 7, 8, 9, 10, 27] ?_
  refine AWp.region ?_
  refine L.S (S.ldN Try.underlying28 Y28) ?_
  refine L.Y Y.mv ?_
  obtain ⟨⟨t418, t421⟩, hc6, h⟩ := Option.bind_eq_some_iff.1 h
  dsimp only at h
  refine L.C (C.callE (l := true) [] Try.func23 (impl_FreeOrder.ac _ _ _ _ _ _ _ hc6) .nil ?_)
  refine L.Y Y.mv ?_
  refine L.Y Y.ex ?_
  refine L.Y Y.ex ?_
  refine L.Y Y.asg ?_
  refine L.Y Y.asg ?_
  refine AList.nil ?_
  refine AWp.seq ?_
  refine W.kp [0, 1, 4, 5, 6, 7, 8, 9, 10, 11, 12, 27] ?_
  refine AWp.region ?_
  refine L.S (S.ldN Try.underlying28 Y28) ?_
  refine L.Y Y.mv ?_
  obtain ⟨⟨t422, t425⟩, hc7, h⟩ := Option.bind_eq_some_iff.1 h
  dsimp only at h
  refine L.C (C.callE (l := true) [] Try.func24 (spec_FreeOrder.ac _ _ _ _ _ _ _ hc7) .nil ?_)
  refine L.Y Y.mv ?_
  refine L.Y Y.ex ?_
  refine L.Y Y.ex ?_
  refine L.Y Y.asg ?_
  refine L.Y Y.asg ?_
  refine AList.nil ?_
  refine AWp.seq ?_
  refine AWp.seq ?_
  refine W.kp [0, 1, 4, 5, 6, 7, 8, 9, 10, 11, 12, 13, 14, 27] ?_
  refine AWp.region ?_
  refine L.Y Y.mv ?_
  refine L.Y Y.mv ?_
  refine L.Y (Y.bb Try.underlying4) ?_
  refine L.Y Y.mv ?_
  refine L.Gc (fun hb => ?_) (fun hb => ?_)
  ·
   have hb8 := hb
   try simp only [hS, hE, ne_eq] at hb
   first | rw [if_pos hb8] at h | rw [if_neg (Bool.eq_false_iff.1 hb8)] at h | rw [if_pos hb] at h | rw [if_neg hb] at h | (simp only [hb, hT, reduceIte] at h) | skip
   exfalso
   revert h
   exact fun h => by cases k <;> simp [laws_FnCovers.j0] at h
  ·
   have hb8 := hb
   try simp only [hS, hE, ne_eq] at hb
   first | rw [if_pos hb8] at h | rw [if_neg (Bool.eq_false_iff.1 hb8)] at h | rw [if_pos hb] at h | rw [if_neg hb] at h | (simp only [hb, hT, reduceIte] at h) | skip
   refine L.Gs hb8 (S.ldN Try.underlying28 Y28) ?_
   refine L.Gs hb8 (S.ldN Try.underlying28 Y28) ?_
   obtain ⟨t426, hc9, h⟩ := Option.bind_eq_some_iff.1 h
   refine L.GC hb8 (C.callE (l := true) [] Try.func25 (laws_vTable.ac _ _ _ _ _ _ _ _ hc9) .nil ?_)
   refine L.Gy hb8 Y.nt ?_
   refine L.Y (Y.pk (c := false) hb8) ?_
   refine L.Y Y.mv ?_
   refine L.Gc (fun hb => ?_) (fun hb => ?_)
   ·
    have hb10 := hb
    try simp only [hS, hE, ne_eq] at hb
    first | rw [if_pos hb10] at h | rw [if_neg (Bool.eq_false_iff.1 hb10)] at h | rw [if_pos hb] at h | rw [if_neg hb] at h | (simp only [hb, hT, reduceIte] at h) | skip
    exfalso
    revert h
    exact fun h => by cases k <;> simp [laws_FnCovers.j0] at h
   ·
    have hb10 := hb
    try simp only [hS, hE, ne_eq] at hb
    first | rw [if_pos hb10] at h | rw [if_neg (Bool.eq_false_iff.1 hb10)] at h | rw [if_pos hb] at h | rw [if_neg hb] at h | (simp only [hb, hT, reduceIte] at h) | skip
    refine L.Gy hb10 Y.mv ?_
    refine L.Gy hb10 Y.mv ?_
    refine L.Gy hb10 (Y.bb Try.underlying4) ?_
    refine L.Y (Y.pk (c := false) hb10) ?_
    refine L.Y Y.mv ?_
    refine L.Gc (fun hb => ?_) (fun hb => ?_)
    ·
     have hb11 := hb
     try simp only [hS, hE, ne_eq] at hb
     first | rw [if_pos hb11] at h | rw [if_neg (Bool.eq_false_iff.1 hb11)] at h | rw [if_pos hb] at h | rw [if_neg hb] at h | (simp only [hb, hT, reduceIte] at h) | skip
     exfalso
     revert h
     exact fun h => by cases k <;> simp [laws_FnCovers.j0] at h
    ·
     have hb11 := hb
     try simp only [hS, hE, ne_eq] at hb
     first | rw [if_pos hb11] at h | rw [if_neg (Bool.eq_false_iff.1 hb11)] at h | rw [if_pos hb] at h | rw [if_neg hb] at h | (simp only [hb, hT, reduceIte] at h) | skip
     refine L.Gy hb11 Y.mv ?_
     refine L.Gy hb11 Y.mv ?_
     obtain ⟨t427, hc12, h⟩ := Option.bind_eq_some_iff.1 h
     refine L.GC hb11 (C.callE (l := true) [] Try.func26 (laws_vSame.ac _ _ _ _ hc12) .nil ?_)
     refine L.Gy hb11 Y.nt ?_
     refine L.Y (Y.pk (c := false) hb11) ?_
     refine L.Y Y.mv ?_
     refine L.Gc (fun hb => ?_) (fun hb => ?_)
     ·
      have hb13 := hb
      try simp only [hS, hE, ne_eq] at hb
      first | rw [if_pos hb13] at h | rw [if_neg (Bool.eq_false_iff.1 hb13)] at h | rw [if_pos hb] at h | rw [if_neg hb] at h | (simp only [hb, hT, reduceIte] at h) | skip
      exfalso
      revert h
      exact fun h => by cases k <;> simp [laws_FnCovers.j0] at h
     ·
      have hb13 := hb
      try simp only [hS, hE, ne_eq] at hb
      first | rw [if_pos hb13] at h | rw [if_neg (Bool.eq_false_iff.1 hb13)] at h | rw [if_pos hb] at h | rw [if_neg hb] at h | (simp only [hb, hT, reduceIte] at h) | skip
      refine L.Gy hb13 Y.mv ?_
      refine L.Gy hb13 Y.mv ?_
      refine L.Gy hb13 (Y.bb Try.underlying4) ?_
      refine L.Y (Y.pk (c := false) hb13) ?_
      refine AList.nil ?_
      rcases k with _ | k
      ·
       exact absurd h (by simp [laws_FnCovers.j0])
      simp only [laws_FnCovers.j0] at h
      refine W.cond (fun hb => ?_) (fun hb => ?_)
      ·
       have hb14 := hb
       try simp only [hS, hE, ne_eq] at hb
       first | rw [if_pos hb14] at h | rw [if_neg (Bool.eq_false_iff.1 hb14)] at h | rw [if_pos hb] at h | rw [if_neg hb] at h | (simp only [hb, hT, reduceIte] at h) | skip
       exfalso
       revert h
       exact fun h => by simp at h
      ·
       have hb14 := hb
       try simp only [hS, hE, ne_eq] at hb
       first | rw [if_pos hb14] at h | rw [if_neg (Bool.eq_false_iff.1 hb14)] at h | rw [if_pos hb] at h | rw [if_neg hb] at h | (simp only [hb, hT, reduceIte] at h) | skip
       refine AWp.skip ?_
       refine AWp.seq ?_
       refine AWp.seq ?_
       refine W.kp [0, 1, 4, 5, 6, 7, 8, 9, 10, 11, 12, 13, 14, 27, 81] ?_
       refine AWp.region ?_
       refine L.Y Y.mv ?_
       refine L.Y Y.nt ?_
       refine AList.nil ?_
       refine W.cond (fun hb => ?_) (fun hb => ?_)
       ·
        have hb15 := hb
        try simp only [hS, hE, ne_eq] at hb
        first | rw [if_pos hb15] at h | rw [if_neg (Bool.eq_false_iff.1 hb15)] at h | rw [if_pos hb] at h | rw [if_neg hb] at h | (simp only [hb, hT, reduceIte] at h) | skip
        refine AWp.seq ?_
        refine AWp.region ?_
        refine L.Y Y.asg ?_
        refine AList.nil ?_
        refine AWp.ret ?_
        first | (exfalso; cases h; done) | exact ⟨.inr rfl, [(4, _)], _, ⟨rfl, rfl⟩, IsPart.at [] [] base0 .nil (E.c .nil (hs := Sub.litE (LV h)))⟩
       ·
        have hb15 := hb
        try simp only [hS, hE, ne_eq] at hb
        first | rw [if_pos hb15] at h | rw [if_neg (Bool.eq_false_iff.1 hb15)] at h | rw [if_pos hb] at h | rw [if_neg hb] at h | (simp only [hb, hT, reduceIte] at h) | skip
        refine AWp.skip ?_
        refine AWp.seq ?_
        refine AWp.region ?_
        refine L.S (S.ldN Try.underlying28 Y28) ?_
        obtain ⟨⟨t428, t429⟩, hc16, h⟩ := Option.bind_eq_some_iff.1 h
        dsimp only at h
        refine L.C (C.callE (l := true) [] Try.func27 (impl_IsBiorder.ac _ _ _ _ _ _ hc16) .nil ?_)
        refine L.Y Y.mv ?_
        refine L.Y Y.ex ?_
        refine L.Y Y.ex ?_
        refine L.Y Y.asg ?_
        refine L.Y Y.asg ?_
        refine AList.nil ?_
        refine AWp.seq ?_
        refine W.kp [0, 1, 4, 5, 6, 7, 8, 9, 10, 11, 12, 13, 14, 15, 16, 27, 81, 83] ?_
        refine AWp.region ?_
        refine L.S (S.ldN Try.underlying28 Y28) ?_
        refine L.S (S.ldN Try.underlying28 Y28) ?_
        obtain ⟨⟨t430, t431, t432, t435⟩, hc17, h⟩ := Option.bind_eq_some_iff.1 h
        dsimp only at h
        refine L.C (C.callE (l := true) [] Try.func28 (impl_MeetTables.ac _ _ _ _ _ _ _ _ _ _ _ hc17) .nil ?_)
        refine L.Y Y.mv ?_
        refine L.Y Y.ex ?_
        refine L.Y Y.ex ?_
        refine L.M (M.al Y28) ?_
        refine L.S (S.stb Y28) ?_
        refine L.Y Y.asg ?_
        refine AList.nil ?_
        refine AWp.seq ?_
        refine AWp.seq ?_
        refine W.kp [0, 1, 4, 5, 6, 7, 8, 9, 10, 11, 12, 13, 14, 15, 16, 17, 18, 27, 81, 83] ?_
        refine AWp.region ?_
        refine L.Y Y.mv ?_
        refine L.Y Y.nt ?_
        refine L.Y Y.mv ?_
        refine L.Gc (fun hb => ?_) (fun hb => ?_)
        ·
         have hb18 := hb
         try simp only [hS, hE, ne_eq] at hb
         first | rw [if_pos hb18] at h | rw [if_neg (Bool.eq_false_iff.1 hb18)] at h | rw [if_pos hb] at h | rw [if_neg hb] at h | (simp only [hb, hT, reduceIte] at h) | skip
         exfalso
         revert h
         exact fun h => by cases k <;> simp [laws_FnCovers.j1] at h
        ·
         have hb18 := hb
         try simp only [hS, hE, ne_eq] at hb
         first | rw [if_pos hb18] at h | rw [if_neg (Bool.eq_false_iff.1 hb18)] at h | rw [if_pos hb] at h | rw [if_neg hb] at h | (simp only [hb, hT, reduceIte] at h) | skip
         refine L.Gy hb18 Y.mv ?_
         refine L.Gy hb18 Y.nt ?_
         refine L.Y (Y.pk (c := false) hb18) ?_
         refine L.Y Y.mv ?_
         refine L.Gc (fun hb => ?_) (fun hb => ?_)
         ·
          have hb19 := hb
          try simp only [hS, hE, ne_eq] at hb
          first | rw [if_pos hb19] at h | rw [if_neg (Bool.eq_false_iff.1 hb19)] at h | rw [if_pos hb] at h | rw [if_neg hb] at h | (simp only [hb, hT, reduceIte] at h) | skip
          exfalso
          revert h
          exact fun h => by cases k <;> simp [laws_FnCovers.j1] at h
         ·
          have hb19 := hb
          try simp only [hS, hE, ne_eq] at hb
          first | rw [if_pos hb19] at h | rw [if_neg (Bool.eq_false_iff.1 hb19)] at h | rw [if_pos hb] at h | rw [if_neg hb] at h | (simp only [hb, hT, reduceIte] at h) | skip
          refine L.Gy hb19 Y.mv ?_
          refine L.Gy hb19 Y.nt ?_
          refine L.Y (Y.pk (c := false) hb19) ?_
          refine L.Y Y.mv ?_
          refine L.Gc (fun hb => ?_) (fun hb => ?_)
          ·
           have hb20 := hb
           try simp only [hS, hE, ne_eq] at hb
           first | rw [if_pos hb20] at h | rw [if_neg (Bool.eq_false_iff.1 hb20)] at h | rw [if_pos hb] at h | rw [if_neg hb] at h | (simp only [hb, hT, reduceIte] at h) | skip
           exfalso
           revert h
           exact fun h => by cases k <;> simp [laws_FnCovers.j1] at h
          ·
           have hb20 := hb
           try simp only [hS, hE, ne_eq] at hb
           first | rw [if_pos hb20] at h | rw [if_neg (Bool.eq_false_iff.1 hb20)] at h | rw [if_pos hb] at h | rw [if_neg hb] at h | (simp only [hb, hT, reduceIte] at h) | skip
           refine L.Gs hb20 (S.ldN Try.underlying28 Y28) ?_
           refine L.Gs hb20 (S.ldN Try.underlying28 Y28) ?_
           obtain ⟨t437, hc21, h⟩ := Option.bind_eq_some_iff.1 h
           refine L.GC hb20 (C.callE (l := true) [] Try.func25 (laws_vTable.ac _ _ _ _ _ _ _ _ hc21) .nil ?_)
           refine L.Gy hb20 Y.nt ?_
           refine L.Y (Y.pk (c := false) hb20) ?_
           refine AList.nil ?_
           rcases k with _ | k
           ·
            exact absurd h (by simp [laws_FnCovers.j1])
           simp only [laws_FnCovers.j1] at h
           refine W.cond (fun hb => ?_) (fun hb => ?_)
           ·
            have hb22 := hb
            try simp only [hS, hE, ne_eq] at hb
            first | rw [if_pos hb22] at h | rw [if_neg (Bool.eq_false_iff.1 hb22)] at h | rw [if_pos hb] at h | rw [if_neg hb] at h | (simp only [hb, hT, reduceIte] at h) | skip
            exfalso
            revert h
            exact fun h => by simp at h
           ·
            have hb22 := hb
            try simp only [hS, hE, ne_eq] at hb
            first | rw [if_pos hb22] at h | rw [if_neg (Bool.eq_false_iff.1 hb22)] at h | rw [if_pos hb] at h | rw [if_neg hb] at h | (simp only [hb, hT, reduceIte] at h) | skip
            refine AWp.skip ?_
            refine AWp.seq ?_
            refine AWp.seq ?_
            refine W.kp [0, 1, 4, 5, 6, 7, 8, 9, 10, 11, 12, 13, 14, 15, 16, 17, 18, 27, 81, 83, 110] ?_
            refine AWp.region ?_
            refine L.Y Y.mv ?_
            refine L.Y (Y.ln Try.underlying22) ?_
            refine L.Y Y.mv ?_
            refine AList.nil ?_
            refine AWp.block ?_
            refine AWp.loopI (fun kk e H => kk ≤ k ∧ ∃ (x111 : List Int) (x112 : Int) (x113 : Int) (x404000 : Int) (x404001 : Int) (x404002 : List Int) (x411000 : Int) (x411001 : Int) (x411002 : List Int) (x418000 : Int) (x418001 : Int) (x418002 : List Int) (x437000 : Int) (x437001 : Int) (x437002 : List Int), e = [(1, .row 1 l1.length false (ints .u8 l1)), (5, .ptr 0 0), (6, .own 1 x111.length), (7, .ptr 2 0), (9, .ptr 3 0), (17, .ptr 4 0), (111, .own 1 x111.length), (112, .lit (.int .i64 x112)), (113, .lit (.int .i64 x113))] ∧ H = [.bx 28 [.lit (.int .i64 x404000), .lit (.int .i64 x404001), .own 5 x404002.length], .sl 3 1 x111.length false (ints .i64 x111), .bx 28 [.lit (.int .i64 x411000), .lit (.int .i64 x411001), .own 6 x411002.length], .bx 28 [.lit (.int .i64 x418000), .lit (.int .i64 x418001), .own 7 x418002.length], .bx 28 [.lit (.int .i64 x437000), .lit (.int .i64 x437001), .own 8 x437002.length], .sl 3 1 x404002.length false (ints .i64 x404002), .sl 3 1 x411002.length false (ints .i64 x411002), .sl 3 1 x418002.length false (ints .i64 x418002), .sl 3 1 x437002.length false (ints .i64 x437002)] ∧ laws_FnCovers.l0 kk l1 x111 x111 x112 x113 x404000 x404001 x404002 x411000 x411001 x411002 = some true) (k := k)
             ⟨_, _, ⟨Nat.le_refl _, _, _, _, _, _, _, _, _, _, _, _, _, _, _, _, rfl, rfl, h⟩, IsPart.at [] [2, 1, 4, 6, 10, 0, 3, 5, 9] base0 (H.c (H.c (H.c (H.c (H.c (H.c (H.c (H.c (H.c .nil))))))))) (E.c (E.c (E.c (E.c (E.c (E.c (E.c (E.c (E.c .nil)))))))))⟩ ?_
            clear h
            rintro k23 e H ⟨hk24, x111, x112, x113, x404000, x404001, x404002, x411000, x411001, x411002, x418000, x418001, x418002, x437000, x437001, x437002, rfl, rfl, h⟩
            cases k23 with
            | zero => exact absurd h (by simp [laws_FnCovers.l0])
            | succ k23 =>
            simp only [laws_FnCovers.l0] at h
            refine AWp.seq ?_
            refine AWp.region ?_
            refine L.Y Y.bin ?_
            refine AList.nil ?_
            refine AWp.seq ?_
            refine W.cond (fun hb => ?_) (fun hb => ?_)
            ·
             have hb25 := hb
             try simp only [hS, hE, ne_eq] at hb
             first | rw [if_pos hb25] at h | rw [if_neg (Bool.eq_false_iff.1 hb25)] at h | rw [if_pos hb] at h | rw [if_neg hb] at h | (simp only [hb, hT, reduceIte] at h) | skip
             repeat (first | (rw [iN] at h; obtain ⟨_, h⟩ := h) | (rw [iP] at h; obtain ⟨_, h⟩ := h) | (simp only [bS] at h))
             refine AWp.skip ?_
             refine AWp.seq ?_
             refine AWp.block ?_
             refine AWp.seq ?_
             refine AWp.region ?_
             refine L.Y (Y.ixo Try.underlying22 Y3) ?_
             refine L.S (S.ld Try.underlying3) ?_
             refine L.Y Y.asg ?_
             refine AList.nil ?_
             refine AWp.seq ?_
             refine AWp.region ?_
             refine L.S (S.ldN Try.underlying28 Y28) ?_
             refine L.Y Y.mv ?_
             obtain ⟨t439, hc26, h⟩ := Option.bind_eq_some_iff.1 h
             refine L.C (C.callE (l := true) [] Try.func29 (laws_vMarked.ac _ _ _ _ _ hc26) .nil ?_)
             refine AList.nil ?_
             refine W.cond (fun hb => ?_) (fun hb => ?_)
             ·
              have hb27 := hb
              try simp only [hS, hE, ne_eq] at hb
              first | rw [if_pos hb27] at h | rw [if_neg (Bool.eq_false_iff.1 hb27)] at h | rw [if_pos hb] at h | rw [if_neg hb] at h | (simp only [hb, hT, reduceIte] at h) | skip
              exfalso
              revert h
              exact fun h => by simp at h
             ·
              have hb27 := hb
              try simp only [hS, hE, ne_eq] at hb
              first | rw [if_pos hb27] at h | rw [if_neg (Bool.eq_false_iff.1 hb27)] at h | rw [if_pos hb] at h | rw [if_neg hb] at h | (simp only [hb, hT, reduceIte] at h) | skip
              refine AWp.skip ?_
              refine W.kp [1, 5, 6, 7, 9, 17, 20, 111, 112, 113, 114, 119] ?_
              refine AWp.region ?_
              refine L.Y Y.bin ?_
              refine L.Y Y.mv ?_
              refine AList.nil ?_
              exact ⟨k23, by omega, _, _, ⟨by omega, _, _, _, _, _, _, _, _, _, _, _, _, _, _, _, rfl, rfl, h⟩, IsPart.at [] [0, 1, 2, 3, 4, 5, 6, 7, 8] base0 (H.c (H.c (H.c (H.c (H.c (H.c (H.c (H.c (H.c .nil))))))))) (E.c (E.c (E.c (E.c (E.c (E.c (E.c (E.c (E.c .nil)))))))))⟩
            ·
             have hb25 := hb
             try simp only [hS, hE, ne_eq] at hb
             first | rw [if_pos hb25] at h | rw [if_neg (Bool.eq_false_iff.1 hb25)] at h | rw [if_pos hb] at h | rw [if_neg hb] at h | (simp only [hb, hT, reduceIte] at h) | skip
             refine AWp.exit ?_
             refine AWp.seq ?_
             refine AWp.seq ?_
             refine AWp.region ?_
             refine L.Y Y.mv ?_
             refine L.Y (Y.ln Try.underlying22) ?_
             refine L.Y Y.bin ?_
             refine AList.nil ?_
             refine W.cond (fun hb => ?_) (fun hb => ?_)
             ·
              have hb28 := hb
              try simp only [hS, hE, ne_eq] at hb
              first | rw [if_pos hb28] at h | rw [if_neg (Bool.eq_false_iff.1 hb28)] at h | rw [if_pos hb] at h | rw [if_neg hb] at h | (simp only [hb, hT, reduceIte] at h) | skip
              refine AWp.seq ?_
              refine AWp.region ?_
              refine L.Y Y.mv ?_
              obtain ⟨t440, hc29, h⟩ := Option.bind_eq_some_iff.1 h
              repeat (first | (rw [iN] at h; obtain ⟨_, h⟩ := h) | (rw [iP] at h; obtain ⟨_, h⟩ := h) | (simp only [bS] at h))
              refine L.C (C.callE (l := true) [] Try.func30 (laws_vNumber.ac _ _ _ hc29) .nil ?_)
              refine L.Y Y.mv ?_
              refine L.Y (Y.ln Try.underlying22) ?_
              refine L.Y Y.bin ?_
              refine L.Y Y.asg ?_
              refine AList.nil ?_
              refine AWp.seq ?_
              refine W.kp [1, 5, 6, 7, 9, 17, 21, 111, 112, 113, 114, 123] ?_
              refine W.frz 1 ?_
              refine Dt.reg [] [] (.y 1 (.y 2 (.y 3 (.y 5 (.y 6 (.y 7 (.y 8 (.one 0 (.one 4 (.one 9 (.y 10 .done))))))))))) HM ?_
              refine Dt.Y rfl wantN Y.mv ?_
              refine Dt.Y rfl wantN Y.mv ?_
              refine Dt.Y rfl wantN (Y.crh Try.underlying22 Y3) ?_
              refine Dt.Y rfl wantN Y.mv ?_
              refine Dt.Y rfl wantN Y.mv ?_
              refine Dt.Y rfl wantN Y.bin ?_
              refine Dt.Y rfl wantN (Y.crl Try.underlying22 Y3) ?_
              refine Dt.O (g' := false) rfl wantN ?_
              refine Ox.M (M.bs Try.underlying22 Y3) ?_
              refine Dt.O (g' := false) rfl wantN ?_
              refine Ox.A (U.ap (nn' := true) Try.underlying22 Y3) ?_
              refine Dt.O (g' := false) rfl wantN ?_
              refine Ox.A (U.ap (nn' := true) Try.underlying22 Y3) ?_
              refine Dt.Y rfl wantN Y.asg ?_
              refine Dt.nil ?_
              refine AWp.seq ?_
              refine W.kp [1, 5, 6, 7, 9, 17, 21, 22, 111, 112, 113, 114, 123] ?_
              refine AWp.region ?_
              refine L.S (S.ldN Try.underlying28 Y28) ?_
              refine L.Y Y.mv ?_
              obtain ⟨⟨t458, t461⟩, hc30, h⟩ := Option.bind_eq_some_iff.1 h
              dsimp only at h
              refine L.C (C.callE (l := true) [] Try.func23 (impl_FreeOrder.ac _ _ _ _ _ _ _ hc30) .nil ?_)
              refine L.Y Y.mv ?_
              refine L.Y Y.ex ?_
              refine L.Y Y.ex ?_
              refine L.Y Y.asg ?_
              refine L.Y Y.asg ?_
              refine AList.nil ?_
              refine AWp.seq ?_
              refine W.kp [1, 5, 6, 7, 9, 17, 21, 22, 24, 111, 112, 113, 114, 123] ?_
              refine AWp.region ?_
              refine L.Y Y.mv ?_
              refine L.Y Y.asg ?_
              refine AList.nil ?_
              refine AWp.ret ?_
              first | (exfalso; cases h; done) | exact ⟨.inr rfl, [(4, _)], _, ⟨rfl, rfl⟩, IsPart.at [] [] base0 .nil (E.c .nil (hs := Sub.litE (LV h)))⟩
             ·
              have hb28 := hb
              try simp only [hS, hE, ne_eq] at hb
              first | rw [if_pos hb28] at h | rw [if_neg (Bool.eq_false_iff.1 hb28)] at h | rw [if_pos hb] at h | rw [if_neg hb] at h | (simp only [hb, hT, reduceIte] at h) | skip
              refine AWp.skip ?_
              refine AWp.seq ?_
              refine AWp.region ?_
              refine L.Y Y.asg ?_
              refine AList.nil ?_
              refine AWp.ret ?_
              first | (exfalso; cases h; done) | exact ⟨.inr rfl, [(4, _)], _, ⟨rfl, rfl⟩, IsPart.at [] [] base0 .nil (E.c .nil (hs := Sub.litE (LV h)))⟩

/-- THE ONE PURE STATEMENT of laws_FnCovers: yours. -/
def laws_FnCovers.Pure : Prop := ∀ (l0 : List Int) (l1 : List Int), l0.length ≤ maxLen → l0.length * 1 ≤ 140737488351232 → (∀ x ∈ l0, (Lit.int .u8 x).wf = true) → l1.length ≤ maxLen → l1.length * 1 ≤ 140737488351232 → (∀ x ∈ l1, (Lit.int .u8 x).wf = true) → ∃ k, laws_FnCovers.f k l0 l1 = some true
theorem laws_FnCovers.walk (P : laws_FnCovers.Pure) (a0 : Option Addr) (len0 cap0 : Nat) (z0 : List Int) (a1 : Option Addr) (len1 cap1 : Nat) (z1 : List Int) (w : World) (w0 : (a0 = none ∧ len0 = 0 ∧ cap0 = 0 ∧ z0 = []) ∨ ∃ x, a0 = some x ∧ len0 ≤ cap0 ∧ cap0 ≤ maxLen ∧ z0.length = cap0 ∧ (∀ i, i < z0.length → w.cell? (x.add i) = some (.int .u8 (z0.getD i 0))) ∧ ∀ n ∈ z0, (Lit.int .u8 n).wf = true) (y0 : len0 * 1 ≤ 140737488351232) (w1 : (a1 = none ∧ len1 = 0 ∧ cap1 = 0 ∧ z1 = []) ∨ ∃ x, a1 = some x ∧ len1 ≤ cap1 ∧ cap1 ≤ maxLen ∧ z1.length = cap1 ∧ (∀ i, i < z1.length → w.cell? (x.add i) = some (.int .u8 (z1.getD i 0))) ∧ ∀ n ∈ z1, (Lit.int .u8 n).wf = true) (y1 : len1 * 1 ≤ 140737488351232) :
  Calls Try.prog 5 #[.slice a0 len0 cap0, .slice a1 len1 cap1] w fun e w' => e = .returned (.bool true) ∧ Below w.heap.size w w' := by
 obtain ⟨hl0, hv0⟩ := VR.came (A0 := fun _ => .bool false) (H := []) w0
 obtain ⟨hm0, hw0⟩ := came_fits w0
 have y0' := y0
 rw [← hl0] at y0'
 obtain ⟨hl1, hv1⟩ := VR.came (A0 := fun _ => .bool false) (H := []) w1
 obtain ⟨hm1, hw1⟩ := came_fits w1
 have y1' := y1
 rw [← hl1] at y1'
 obtain ⟨k, h⟩ := P (z0.take len0) (z1.take len1) hm0 y0' hw0 hm1 y1' hw1
 refine ACalls.law (vs := [.slice a0 len0 cap0, .slice a1 len1 cap1]) (fun p hp => by cases hp) (laws_FnCovers.ac k (z0.take len0) (z1.take len1) h) ?_
 repeat' first | assumption | exact VRs_nil | exact VR_lit | refine VRs_cons ?_ ?_ | refine VR_agg ?_

end Go.Proofs.Ytpippjgphndjmaa.PFnCovers
