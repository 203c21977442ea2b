-- Written by a program of this session's (wip/myprint2): the functions by the kit's print, the walks by awgen.py. Lean checks it.
import Derived.Test.YtpippjgphndjmaaDoorPFnOrdersAsTablesx0
import Derived.Test.YtpippjgphndjmaaDoorPFnOrdersAsTablesx2
import Derived.Test.YtpippjgphndjmaaDoorPFnOrdersAsTablesx4
import Derived.Test.YtpippjgphndjmaaDoorPFnOrdersAsTablesx7
import Derived.Test.YtpippjgphndjmaaDoorPFnOrdersAsTablesx8
import Derived.Test.YtpippjgphndjmaaDoorPFnOrdersAsTablesx9
import Derived.Test.YtpippjgphndjmaaDoorPFnOrdersAsTablesx10
import Derived.Test.YtpippjgphndjmaaDoorPFnOrdersAsTablesx11
namespace Go.Proofs.YtpippjgphndjmaaDoor.PFnOrdersAsTables
open Go.RowKit Go.Proofs.YtpippjgphndjmaaDoorW.PrintWords Go.Proofs.YtpippjgphndjmaaDoorW.PrintLast Go.Proofs.YtpippjgphndjmaaDoorW.PrintMore Go.Proofs.YtpippjgphndjmaaDoorM Go.Proofs.YtpippjgphndjmaaDoorA Go.Proofs.YtpippjgphndjmaaDoorT
attribute [local go_sem] max2_int min2_int max_two min_two max_three min_three max_four min_four   -- for this text's walks alone
set_option linter.unusedVariables false
set_option linter.unusedSimpArgs false

/-! ### laws_FnOrdersAsTables: function 7 -/
mutual
def laws_FnOrdersAsTables.j0 : Nat → List Int → Bool → Bool → Int → List Int → Option (Bool)
 | 0, _, _, _, _, _ => none
 | k + 1, x1, x9, x73, x465000, x465001 => if x73 = true then (some false) else (if x9 = true then (laws_FnOrdersAsTables.j1 k x1 (decide (x465000 ≤ 6)) x465000 x465001) else (laws_FnOrdersAsTables.j1 k x1 false x465000 x465001))
def laws_FnOrdersAsTables.j1 : Nat → List Int → Bool → Int → List Int → Option (Bool)
 | 0, _, _, _, _ => none
 | k + 1, x1, x79, x465000, x465001 => if x79 = true then (laws_FnOrdersAsTables.l0 k x1 ([] : List Int) 0 x465000 x465001) else (laws_FnOrdersAsTables.j4 k x1)
def laws_FnOrdersAsTables.j4 : Nat → List Int → Option (Bool)
 | 0, _ => none
 | k + 1, x1 => (spec_DrawCountBiorders.f x1).bind fun bt514 => ((impl_CountBiorders.f k bt514.1 bt514.2).bind fun bt516 => ((spec_CountBiorders.f k bt514.1 bt514.2).bind fun bt518 => (if (bt516.2 != bt518.2) = true then (laws_FnOrdersAsTables.j5 k bt514.1 bt514.2 bt516.1 bt516.2 true) else (laws_FnOrdersAsTables.j5 k bt514.1 bt514.2 bt516.1 bt516.2 (bt516.1 != bt518.1)))))
def laws_FnOrdersAsTables.j5 : Nat → Int → Int → Int → Bool → Bool → Option (Bool)
 | 0, _, _, _, _, _ => none
 | k + 1, x30, x31, x32, x33, x229 => if x229 = true then (some false) else (if x33 = true then (laws_FnOrdersAsTables.j6 k x30 x31 x32 (decide ((wrap64 (x30 * x31)) ≤ 9))) else (laws_FnOrdersAsTables.j6 k x30 x31 x32 false))
def laws_FnOrdersAsTables.j6 : Nat → Int → Int → Int → Bool → Option (Bool)
 | 0, _, _, _, _ => none
 | k + 1, x30, x31, x32, x236 => if x236 = true then (laws_FnOrdersAsTables.l1 k x30 x31 x32 0 0) else (some true)
def laws_FnOrdersAsTables.l1 : Nat → Int → Int → Int → Int → Int → Option (Bool)
 | 0, _, _, _, _, _ => none
 | k + 1, x30, x31, x32, x36, x37 => if 0 ≤ (wrap64 (x30 * x31)) then (if x37 < (shl .i64 1 (wrap64 (x30 * x31))) then (laws_FnOrdersAsTables.l2 k x30 x31 x32 x36 x37 0 x30 x31 ([] : List Int)) else (some (x36 == x32))) else (none)
def laws_FnOrdersAsTables.l2 : Nat → Int → Int → Int → Int → Int → Int → Int → Int → List Int → Option (Bool)
 | 0, _, _, _, _, _, _, _, _, _ => none
 | k + 1, x30, x31, x32, x36, x37, x39, x521000, x521001, x521002 => if x39 < x30 then (if 0 ≤ (wrap64 (x39 * x31)) then (if 0 ≤ x31 then (if x521002.length < 17592186044416 then (laws_FnOrdersAsTables.l2 k x30 x31 x32 x36 x37 (wrap64 (x39 + 1)) x521000 x521001 (x521002 ++ [Go.bits .and .i64 (shr .i64 x37 (wrap64 (x39 * x31))) (wrap64 ((shl .i64 1 x31) - 1))])) else (none)) else (none)) else (none)) else ((impl_IsBiorder.f k x521000 x521001 x521002).bind fun bt524 => (if bt524.2 = true then (if bt524.1 = true then (laws_FnOrdersAsTables.l1 k x30 x31 x32 (wrap64 (x36 + 1)) (wrap64 (x37 + 1))) else (laws_FnOrdersAsTables.l1 k x30 x31 x32 x36 (wrap64 (x37 + 1)))) else (some false)))
def laws_FnOrdersAsTables.l0 : Nat → List Int → List Int → Int → Int → List Int → Option (Bool)
 | 0, _, _, _, _, _ => none
 | k + 1, x1, x12, x13, x465000, x465001 => if x13 < x465000 then (if x12.length < 17592186044416 then (laws_FnOrdersAsTables.l0 k x1 (x12 ++ [x13]) (wrap64 (x13 + 1)) x465000 x465001) else (none)) else ((impl_TableOfOrder.f k x465000 x465001 x12 x12).bind fun bt483 => ((impl_IsBiorder.f k bt483.1 bt483.2.1 bt483.2.2.1).bind fun bt490 => ((impl_FourCells.f k bt483.1 bt483.2.1 bt483.2.2.1).bind fun bt492 => ((impl_IsIntervalOrder.f k x465000 x465001).bind fun bt496 => (if bt483.2.2.2 = true then (if bt490.2 = true then (if (bt490.1 == bt492.2) = true then (laws_FnOrdersAsTables.j3 k x1 bt492.1 bt492.2 true x465000 x465001) else (if bt496.2 = true then (laws_FnOrdersAsTables.j3 k x1 bt492.1 bt492.2 (bt496.1 != bt490.1) x465000 x465001) else (laws_FnOrdersAsTables.j3 k x1 bt492.1 bt492.2 true x465000 x465001))) else (laws_FnOrdersAsTables.j3 k x1 bt492.1 bt492.2 true x465000 x465001)) else (laws_FnOrdersAsTables.j3 k x1 bt492.1 bt492.2 true x465000 x465001))))))
def laws_FnOrdersAsTables.j3 : Nat → List Int → List Int → Bool → Bool → Int → List Int → Option (Bool)
 | 0, _, _, _, _, _, _ => none
 | k + 1, x1, x18, x19, x131, x465000, x465001 => if x131 = true then (some false) else (if x19 = true then (if 0 < (x18.length : Int) then (if 1 < (x18.length : Int) then ((impl_IsBetter.f k x465000 x465001 (rd x18 0) (rd x18 1)).bind fun bt500 => (if 2 < (x18.length : Int) then (if 3 < (x18.length : Int) then ((impl_IsBetter.f k x465000 x465001 (rd x18 2) (rd x18 3)).bind fun bt504 => ((impl_IsBetter.f k x465000 x465001 (rd x18 0) (rd x18 3)).bind fun bt508 => ((impl_IsBetter.f k x465000 x465001 (rd x18 2) (rd x18 1)).bind fun bt512 => (if bt500.2 = true then (if bt504.2 = true then (if bt508.2 = true then (if bt512.2 = true then (if bt500.1 = true then (if bt504.1 = true then (if bt508.1 = true then (some false) else (if bt512.1 = true then (some false) else (laws_FnOrdersAsTables.j4 k x1))) else (some false)) else (some false)) else (some false)) else (some false)) else (some false)) else (some false))))) else (none)) else (none))) else (none)) else (none)) else (laws_FnOrdersAsTables.j4 k x1))
end
def laws_FnOrdersAsTables.f (k : Nat) (l0 : List Int) (l1 : List Int) : Option (Bool) := (laws_big.f l0 l1).bind fun t453 => (if t453 = true then (some true) else ((spec_DrawTableOfOrder.f k l0).bind fun bt454 => ((impl_TableOfOrder.f k bt454.1 bt454.2.1 bt454.2.2.1 bt454.2.2.2).bind fun bt465 => ((spec_TableOfOrder.f k bt454.1 bt454.2.1 bt454.2.2.1 bt454.2.2.2).bind fun bt472 => (if (bt465.2.2.2 != bt472.2.2.2) = true then (laws_FnOrdersAsTables.j0 k l1 bt465.2.2.2 true bt454.1 bt454.2.1) else ((laws_vTable.f k bt465.1 bt465.2.1 bt465.2.2.1 bt472.1 bt472.2.1 bt472.2.2.1).bind fun t479 => (laws_FnOrdersAsTables.j0 k l1 bt465.2.2.2 (!t479) bt454.1 bt454.2.1)))))))
set_option maxRecDepth 100000 in
set_option maxHeartbeats 20000000 in
theorem laws_FnOrdersAsTables.ac (k : Nat) (l0 : List Int) (l1 : List Int)  (h : laws_FnOrdersAsTables.f k l0 l1 = some true) :
  ACalls Tryd.prog 7 [.row 1 l0.length false (ints .u8 l0), .row 1 l1.length false (ints .u8 l1)] [] (fun v H' => v = .lit (.bool true) ∧ H' = []) := by
 refine ACalls.ofP [4] Tryd.func7 rfl (by exact Nat.le_of_ble_eq_true rfl) rfl (by decide) ?_
 simp only [Tryd.ntmps7, env0, laws_FnOrdersAsTables.f] at h ⊢
 refine AWp.seq ?_
 refine AWp.region ?_
 refine L.Y Y.asg ?_
 refine AList.nil ?_
 refine AWp.seq ?_
 refine AWp.seq ?_
 refine AWp.region ?_
 refine L.Y Y.mv ?_
 refine L.Y Y.mv ?_
 replace h := Option.bind_eq_some_iff.1 h
 obtain ⟨t453, hc1, h⟩ := h
 refine L.C (C.callE (l := true) [] Tryd.func22 (laws_big.ac _ _ _ hc1) .nil ?_)
 refine AList.nil ?_
 refine W.cond (fun hb => ?_) (fun hb => ?_)
 ·
  have hb2 := hb
  try simp only [hS, hE, ne_eq] at hb
  first | rw [if_pos hb2] at h | rw [if_neg (Bool.eq_false_iff.1 hb2)] at h | rw [if_pos hb] at h | rw [if_neg hb] at h | (simp only [hb, hT, reduceIte] at h) | skip
  refine AWp.seq ?_
  refine AWp.region ?_
  refine L.Y Y.asg ?_
  refine AList.nil ?_
  refine AWp.ret ?_
  first | (exfalso; cases h; done) | exact ⟨.inr rfl, [(4, _)], _, ⟨rfl, rfl⟩, IsPart.at [] [] base0 .nil (E.c .nil (hs := Sub.litE (LV h)))⟩
 ·
  have hb2 := hb
  try simp only [hS, hE, ne_eq] at hb
  first | rw [if_pos hb2] at h | rw [if_neg (Bool.eq_false_iff.1 hb2)] at h | rw [if_pos hb] at h | rw [if_neg hb] at h | (simp only [hb, hT, reduceIte] at h) | skip
  refine AWp.skip ?_
  refine AWp.seq ?_
  refine AWp.region ?_
  refine L.Y Y.mv ?_
  replace h := Option.bind_eq_some_iff.1 h
  obtain ⟨⟨t454, t455, t458, t461⟩, hc3, h⟩ := h
  dsimp only at h
  refine L.C (C.callE (l := false) [] Tryd.func38 (spec_DrawTableOfOrder.ac _ _ _ _ _ _ hc3) .nil ?_)
  refine L.Y Y.mv ?_
  refine L.Y Y.ex ?_
  refine L.Y Y.ex ?_
  refine L.Y Y.ex ?_
  refine L.M (M.al Y30) ?_
  refine L.S (S.stb Y30) ?_
  refine L.Y Y.asg ?_
  refine L.Y Y.asg ?_
  refine AList.nil ?_
  refine AWp.seq ?_
  refine W.kp [0, 1, 4, 5, 6, 7, 44] ?_
  refine AWp.region ?_
  refine L.S (S.ldN Tryd.underlying30 Y30) ?_
  refine L.Y Y.mv ?_
  refine L.Y Y.mv ?_
  replace h := Option.bind_eq_some_iff.1 h
  obtain ⟨⟨t465, t466, t467, t470⟩, hc4, h⟩ := h
  dsimp only at h
  refine L.C (C.callE (l := true) [] Tryd.func14 (impl_TableOfOrder.ac _ _ _ _ _ _ _ _ _ hc4) .nil ?_)
  refine L.Y Y.mv ?_
  refine L.Y Y.ex ?_
  refine L.Y Y.ex ?_
  refine L.M (M.al Y27) ?_
  refine L.S (S.stb Y27) ?_
  refine L.Y Y.asg ?_
  refine AList.nil ?_
  refine AWp.seq ?_
  refine W.kp [0, 1, 4, 5, 6, 7, 8, 9, 44] ?_
  refine AWp.region ?_
  refine L.S (S.ldN Tryd.underlying30 Y30) ?_
  refine L.Y Y.mv ?_
  refine L.Y Y.mv ?_
  replace h := Option.bind_eq_some_iff.1 h
  obtain ⟨⟨t472, t473, t474, t477⟩, hc5, h⟩ := h
  dsimp only at h
  refine L.C (C.callE (l := true) [] Tryd.func11 (spec_TableOfOrder.ac _ _ _ _ _ _ _ _ _ hc5) .nil ?_)
  refine L.Y Y.mv ?_
  refine L.Y Y.ex ?_
  refine L.Y Y.ex ?_
  refine L.M (M.al Y27) ?_
  refine L.S (S.stb Y27) ?_
  refine L.Y Y.asg ?_
  refine AList.nil ?_
  refine AWp.seq ?_
  refine AWp.seq ?_
  refine W.kp [0, 1, 4, 5, 6, 7, 8, 9, 10, 11, 44] ?_
  refine AWp.region ?_
  refine L.Y Y.mv ?_
  refine L.Y Y.mv ?_
  refine L.Y (Y.bb Tryd.underlying4) ?_
  refine L.Y Y.mv ?_
  refine L.Gc (fun hb => ?_) (fun hb => ?_)
  ·
   have hb6 := hb
   try simp only [hS, hE, ne_eq] at hb
   first | rw [if_pos hb6] at h | rw [if_neg (Bool.eq_false_iff.1 hb6)] at h | rw [if_pos hb] at h | rw [if_neg hb] at h | (simp only [hb, hT, reduceIte] at h) | skip
   exfalso
   revert h
   exact fun h => by cases k <;> simp [laws_FnOrdersAsTables.j0] at h
  ·
   have hb6 := hb
   try simp only [hS, hE, ne_eq] at hb
   first | rw [if_pos hb6] at h | rw [if_neg (Bool.eq_false_iff.1 hb6)] at h | rw [if_pos hb] at h | rw [if_neg hb] at h | (simp only [hb, hT, reduceIte] at h) | skip
   refine L.Gs hb6 (S.ldN Tryd.underlying27 Y27) ?_
   refine L.Gs hb6 (S.ldN Tryd.underlying27 Y27) ?_
   replace h := Option.bind_eq_some_iff.1 h
   obtain ⟨t479, hc7, h⟩ := h
   refine L.GC hb6 (C.callE (l := true) [] Tryd.func39 (laws_vTable.ac _ _ _ _ _ _ _ _ hc7) .nil ?_)
   refine L.Gy hb6 Y.nt ?_
   refine L.Y (Y.pk (c := false) hb6) ?_
   refine AList.nil ?_
   rcases k with _ | k
   ·
    exact absurd h (by simp [laws_FnOrdersAsTables.j0])
   simp only [laws_FnOrdersAsTables.j0] at h
   refine W.cond (fun hb => ?_) (fun hb => ?_)
   ·
    have hb8 := hb
    try simp only [hS, hE, ne_eq] at hb
    first | rw [if_pos hb8] at h | rw [if_neg (Bool.eq_false_iff.1 hb8)] at h | rw [if_pos hb] at h | rw [if_neg hb] at h | (simp only [hb, hT, reduceIte] at h) | skip
    exfalso
    revert h
    exact fun h => by simp at h
   ·
    have hb8 := hb
    try simp only [hS, hE, ne_eq] at hb
    first | rw [if_pos hb8] at h | rw [if_neg (Bool.eq_false_iff.1 hb8)] at h | rw [if_pos hb] at h | rw [if_neg hb] at h | (simp only [hb, hT, reduceIte] at h) | skip
    refine AWp.skip ?_
    refine AWp.seq ?_
    refine AWp.seq ?_
    refine W.kp [0, 1, 4, 5, 6, 7, 8, 9, 10, 11, 44, 73] ?_
    refine AWp.region ?_
    refine L.Y Y.mv ?_
    refine L.Y Y.mv ?_
    refine L.Gc (fun hb => ?_) (fun hb => ?_)
    ·
     have hb9 := hb
     try simp only [hS, hE, ne_eq] at hb
     first | rw [if_pos hb9] at h | rw [if_neg (Bool.eq_false_iff.1 hb9)] at h | rw [if_pos hb] at h | rw [if_neg hb] at h | (simp only [hb, hT, reduceIte] at h) | skip
     refine L.Gy hb9 (Y.fa (off := 0) Tryd.underlying30 Y3) ?_
     refine L.Gs hb9 (S.ld Tryd.underlying3) ?_
     refine L.Gy hb9 Y.bin ?_
     refine L.Y (Y.pk (c := true) hb9) ?_
     refine AList.nil ?_
     rcases k with _ | k
     ·
      exact absurd h (by simp [laws_FnOrdersAsTables.j1])
     simp only [laws_FnOrdersAsTables.j1] at h
     refine W.cond (fun hb => ?_) (fun hb => ?_)
     ·
      have hb10 := hb
      try simp only [hS, hE, ne_eq] at hb
      first | rw [if_pos hb10] at h | rw [if_neg (Bool.eq_false_iff.1 hb10)] at h | rw [if_pos hb] at h | rw [if_neg hb] at h | (simp only [hb, hT, reduceIte] at h) | skip
      refine AWp.seq ?_
      refine W.kp [0, 1, 4, 5, 6, 7, 8, 9, 10, 11, 44, 73, 79] ?_
      refine AWp.region ?_
      refine L.Y Y.asg ?_
      refine AList.nil ?_
      refine AWp.seq ?_
      refine AWp.seq ?_
      refine AWp.region ?_
      refine L.Y Y.asg ?_
      refine AList.nil ?_
      refine AWp.block ?_
      refine AWp.loopI (fun kk e H => kk ≤ k ∧ ∃ (x12 : List Int) (x13 : Int) (x465000 : Int) (x465001 : List Int) (x472000 : Int) (x472001 : Int) (x472002 : List Int) (x479000 : Int) (x479001 : Int) (x479002 : List Int), e = [(1, .row 1 l1.length false (ints .u8 l1)), (5, .ptr 0 0), (8, .ptr 1 0), (10, .ptr 2 0), (12, .own 3 x12.length), (13, .lit (.int .i64 x13))] ∧ H = [.bx 30 [.lit (.int .i64 x465000), .row 1 x465001.length false (ints .i64 x465001)], .bx 27 [.lit (.int .i64 x472000), .lit (.int .i64 x472001), .own 4 x472002.length], .bx 27 [.lit (.int .i64 x479000), .lit (.int .i64 x479001), .own 5 x479002.length], .sl 3 1 x12.length false (ints .i64 x12), .sl 3 1 x472002.length false (ints .i64 x472002), .sl 3 1 x479002.length false (ints .i64 x479002)] ∧ laws_FnOrdersAsTables.l0 kk l1 x12 x13 x465000 x465001 = some true) (k := k)
       ⟨_, _, ⟨Nat.le_refl _, _, _, _, _, _, _, _, _, _, _, rfl, rfl, h⟩, IsPart.at [(3, 1)] [2, 4, 6, 7, 3, 5] base0 (H.c (H.c (H.c (H.c (H.c (H.c .nil)))))) (E.c (E.c (E.c (E.c (E.c (E.c .nil))))))⟩ ?_
      clear h
      rintro k11 e H ⟨hk12, x12, x13, x465000, x465001, x472000, x472001, x472002, x479000, x479001, x479002, rfl, rfl, h⟩
      cases k11 with
      | zero => exact absurd h (by simp [laws_FnOrdersAsTables.l0])
      | succ k11 =>
      simp only [laws_FnOrdersAsTables.l0] at h
      refine AWp.seq ?_
      refine AWp.seq ?_
      refine AWp.region ?_
      refine L.Y Y.mv ?_
      refine L.Y (Y.fa (off := 0) Tryd.underlying30 Y3) ?_
      refine L.S (S.ld Tryd.underlying3) ?_
      refine L.Y Y.bin ?_
      refine AList.nil ?_
      refine W.cond (fun hb => ?_) (fun hb => ?_)
      ·
       have hb13 := hb
       try simp only [hS, hE, ne_eq] at hb
       first | rw [if_pos hb13] at h | rw [if_neg (Bool.eq_false_iff.1 hb13)] at h | rw [if_pos hb] at h | rw [if_neg hb] at h | (simp only [hb, hT, reduceIte] at h) | skip
       repeat (first | (rw [iN] at h; obtain ⟨_, h⟩ := h) | (rw [iP] at h; obtain ⟨_, h⟩ := h) | (simp only [bS] at h))
       refine AWp.skip ?_
       refine AWp.seq ?_
       refine AWp.block ?_
       refine AWp.region ?_
       refine L.Y Y.mv ?_
       refine L.Y Y.mv ?_
       refine L.M (M.bs Tryd.underlying22 Y3) ?_
       refine L.S (S.ap (nn' := false) Tryd.underlying22 Y3) ?_
       refine L.Y Y.asg ?_
       refine AList.nil ?_
       refine W.kp [1, 5, 8, 10, 12, 13, 83] ?_
       refine AWp.region ?_
       refine L.Y Y.mv ?_
       refine L.Y Y.bin ?_
       refine L.Y Y.asg ?_
       refine AList.nil ?_
       exact ⟨k11, by omega, _, _, ⟨by omega, _, _, _, _, _, _, _, _, _, _, rfl, rfl, h⟩, IsPart.at [] [0, 1, 2, 3, 4, 5] base0 (H.c (H.c (H.c (H.c (H.c (H.c .nil)))))) (E.c (E.c (E.c (E.c (E.c (E.c .nil))))))⟩
      ·
       have hb13 := hb
       try simp only [hS, hE, ne_eq] at hb
       first | rw [if_pos hb13] at h | rw [if_neg (Bool.eq_false_iff.1 hb13)] at h | rw [if_pos hb] at h | rw [if_neg hb] at h | (simp only [hb, hT, reduceIte] at h) | skip
       refine AWp.exit ?_
       refine AWp.seq ?_
       refine AWp.region ?_
       refine L.S (S.ldN Tryd.underlying30 Y30) ?_
       refine L.Y Y.mv ?_
       refine L.Y Y.mv ?_
       replace h := Option.bind_eq_some_iff.1 h
       obtain ⟨⟨t483, t484, t485, t488⟩, hc14, h⟩ := h
       dsimp only at h
       refine L.C (C.callE (l := true) [] Tryd.func14 (impl_TableOfOrder.ac _ _ _ _ _ _ _ _ _ hc14) .nil ?_)
       refine L.Y Y.mv ?_
       refine L.Y Y.ex ?_
       refine L.Y Y.ex ?_
       refine L.M (M.al Y27) ?_
       refine L.S (S.stb Y27) ?_
       refine L.Y Y.asg ?_
       refine AList.nil ?_
       refine AWp.seq ?_
       refine W.kp [1, 5, 8, 10, 12, 13, 14, 15, 83] ?_
       refine AWp.region ?_
       refine L.S (S.ldN Tryd.underlying27 Y27) ?_
       replace h := Option.bind_eq_some_iff.1 h
       obtain ⟨⟨t490, t491⟩, hc15, h⟩ := h
       dsimp only at h
       refine L.C (C.callE (l := true) [] Tryd.func40 (impl_IsBiorder.ac _ _ _ _ _ _ hc15) .nil ?_)
       refine L.Y Y.mv ?_
       refine L.Y Y.ex ?_
       refine L.Y Y.ex ?_
       refine L.Y Y.asg ?_
       refine L.Y Y.asg ?_
       refine AList.nil ?_
       refine AWp.seq ?_
       refine W.kp [1, 5, 8, 10, 12, 13, 14, 15, 16, 17, 83] ?_
       refine AWp.region ?_
       refine L.S (S.ldN Tryd.underlying27 Y27) ?_
       replace h := Option.bind_eq_some_iff.1 h
       obtain ⟨⟨t492, t495⟩, hc16, h⟩ := h
       dsimp only at h
       refine L.C (C.callE (l := true) [] Tryd.func41 (impl_FourCells.ac _ _ _ _ _ _ hc16) .nil ?_)
       refine L.Y Y.mv ?_
       refine L.Y Y.ex ?_
       refine L.Y Y.ex ?_
       refine L.Y Y.asg ?_
       refine L.Y Y.asg ?_
       refine AList.nil ?_
       refine AWp.seq ?_
       refine W.kp [1, 5, 8, 10, 12, 13, 14, 15, 16, 17, 18, 19, 83] ?_
       refine AWp.region ?_
       refine L.S (S.ldN Tryd.underlying30 Y30) ?_
       replace h := Option.bind_eq_some_iff.1 h
       obtain ⟨⟨t496, t497⟩, hc17, h⟩ := h
       dsimp only at h
       refine L.C (C.callE (l := true) [] Tryd.func42 (impl_IsIntervalOrder.ac _ _ _ _ _ hc17) .nil ?_)
       refine L.Y Y.mv ?_
       refine L.Y Y.ex ?_
       refine L.Y Y.ex ?_
       refine L.Y Y.asg ?_
       refine L.Y Y.asg ?_
       refine AList.nil ?_
       refine AWp.seq ?_
       refine AWp.seq ?_
       refine W.kp [1, 5, 8, 10, 12, 13, 14, 15, 16, 17, 18, 19, 20, 21, 83] ?_
       refine AWp.region ?_
       refine L.Y Y.mv ?_
       refine L.Y Y.nt ?_
       refine L.Y Y.mv ?_
       refine L.Gc (fun hb => ?_) (fun hb => ?_)
       ·
        have hb18 := hb
        try simp only [hS, hE, ne_eq] at hb
        first | rw [if_pos hb18] at h | rw [if_neg (Bool.eq_false_iff.1 hb18)] at h | rw [if_pos hb] at h | rw [if_neg hb] at h | (simp only [hb, hT, reduceIte] at h) | skip
        exfalso
        revert h
        exact fun h => by cases k11 <;> simp [laws_FnOrdersAsTables.j3] at h
       ·
        have hb18 := hb
        try simp only [hS, hE, ne_eq] at hb
        first | rw [if_pos hb18] at h | rw [if_neg (Bool.eq_false_iff.1 hb18)] at h | rw [if_pos hb] at h | rw [if_neg hb] at h | (simp only [hb, hT, reduceIte] at h) | skip
        refine L.Gy hb18 Y.mv ?_
        refine L.Gy hb18 Y.nt ?_
        refine L.Y (Y.pk (c := false) hb18) ?_
        refine L.Y Y.mv ?_
        refine L.Gc (fun hb => ?_) (fun hb => ?_)
        ·
         have hb19 := hb
         try simp only [hS, hE, ne_eq] at hb
         first | rw [if_pos hb19] at h | rw [if_neg (Bool.eq_false_iff.1 hb19)] at h | rw [if_pos hb] at h | rw [if_neg hb] at h | (simp only [hb, hT, reduceIte] at h) | skip
         exfalso
         revert h
         exact fun h => by cases k11 <;> simp [laws_FnOrdersAsTables.j3] at h
        ·
         have hb19 := hb
         try simp only [hS, hE, ne_eq] at hb
         first | rw [if_pos hb19] at h | rw [if_neg (Bool.eq_false_iff.1 hb19)] at h | rw [if_pos hb] at h | rw [if_neg hb] at h | (simp only [hb, hT, reduceIte] at h) | skip
         refine L.Gy hb19 Y.mv ?_
         refine L.Gy hb19 Y.mv ?_
         refine L.Gy hb19 (Y.bb Tryd.underlying4) ?_
         refine L.Y (Y.pk (c := false) hb19) ?_
         refine L.Y Y.mv ?_
         refine L.Gc (fun hb => ?_) (fun hb => ?_)
         ·
          have hb20 := hb
          try simp only [hS, hE, ne_eq] at hb
          first | rw [if_pos hb20] at h | rw [if_neg (Bool.eq_false_iff.1 hb20)] at h | rw [if_pos hb] at h | rw [if_neg hb] at h | (simp only [hb, hT, reduceIte] at h) | skip
          exfalso
          revert h
          exact fun h => by cases k11 <;> simp [laws_FnOrdersAsTables.j3] at h
         ·
          have hb20 := hb
          try simp only [hS, hE, ne_eq] at hb
          first | rw [if_pos hb20] at h | rw [if_neg (Bool.eq_false_iff.1 hb20)] at h | rw [if_pos hb] at h | rw [if_neg hb] at h | (simp only [hb, hT, reduceIte] at h) | skip
          refine L.Gy hb20 Y.mv ?_
          refine L.Gy hb20 Y.nt ?_
          refine L.Y (Y.pk (c := false) hb20) ?_
          refine L.Y Y.mv ?_
          refine L.Gc (fun hb => ?_) (fun hb => ?_)
          ·
           have hb21 := hb
           try simp only [hS, hE, ne_eq] at hb
           first | rw [if_pos hb21] at h | rw [if_neg (Bool.eq_false_iff.1 hb21)] at h | rw [if_pos hb] at h | rw [if_neg hb] at h | (simp only [hb, hT, reduceIte] at h) | skip
           exfalso
           revert h
           exact fun h => by cases k11 <;> simp [laws_FnOrdersAsTables.j3] at h
          ·
           have hb21 := hb
           try simp only [hS, hE, ne_eq] at hb
           first | rw [if_pos hb21] at h | rw [if_neg (Bool.eq_false_iff.1 hb21)] at h | rw [if_pos hb] at h | rw [if_neg hb] at h | (simp only [hb, hT, reduceIte] at h) | skip
           refine L.Gy hb21 Y.mv ?_
           refine L.Gy hb21 Y.mv ?_
           refine L.Gy hb21 (Y.bb Tryd.underlying4) ?_
           refine L.Y (Y.pk (c := false) hb21) ?_
           refine AList.nil ?_
           rcases k11 with _ | k11
           ·
            exact absurd h (by simp [laws_FnOrdersAsTables.j3])
           simp only [laws_FnOrdersAsTables.j3] at h
           refine W.cond (fun hb => ?_) (fun hb => ?_)
           ·
            have hb22 := hb
            try simp only [hS, hE, ne_eq] at hb
            first | rw [if_pos hb22] at h | rw [if_neg (Bool.eq_false_iff.1 hb22)] at h | rw [if_pos hb] at h | rw [if_neg hb] at h | (simp only [hb, hT, reduceIte] at h) | skip
            exfalso
            revert h
            exact fun h => by simp at h
           ·
            have hb22 := hb
            try simp only [hS, hE, ne_eq] at hb
            first | rw [if_pos hb22] at h | rw [if_neg (Bool.eq_false_iff.1 hb22)] at h | rw [if_pos hb] at h | rw [if_neg hb] at h | (simp only [hb, hT, reduceIte] at h) | skip
            refine AWp.skip ?_
            refine AWp.seq ?_
            refine W.kp [1, 5, 8, 10, 12, 13, 14, 15, 16, 17, 18, 19, 20, 21, 83, 131] ?_
            refine AWp.region ?_
            refine L.Y Y.mv ?_
            refine AList.nil ?_
            refine W.cond (fun hb => ?_) (fun hb => ?_)
            ·
             have hb23 := hb
             try simp only [hS, hE, ne_eq] at hb
             first | rw [if_pos hb23] at h | rw [if_neg (Bool.eq_false_iff.1 hb23)] at h | rw [if_pos hb] at h | rw [if_neg hb] at h | (simp only [hb, hT, reduceIte] at h) | skip
             repeat (first | (rw [iN] at h; obtain ⟨_, h⟩ := h) | (rw [iP] at h; obtain ⟨_, h⟩ := h) | (simp only [bS] at h))
             refine AWp.seq ?_
             refine Dt.reg [] [] (.t 0 (.y 1 (.y 2 (.t 3 (.y 4 (.y 5 (.t 6 (.one 7 (.y 8 (.y 9 (.y 10 (.y 11 (.y 12 .done))))))))))))) HM ?_
             refine Dt.T rfl wantN (D.ldN Tryd.underlying30 Y30) ?_
             refine Dt.Y rfl wantN Y.mv ?_
             refine Dt.Y rfl wantN (Y.ixo Tryd.underlying22 Y3) ?_
             refine Dt.T rfl wantN (D.ld Tryd.underlying3) ?_
             refine Dt.Y rfl wantN Y.mv ?_
             refine Dt.Y rfl wantN (Y.ixo Tryd.underlying22 Y3) ?_
             refine Dt.T rfl wantN (D.ld Tryd.underlying3) ?_
             refine Dt.O (g' := false) rfl wantN ?_
             replace h := Option.bind_eq_some_iff.1 h
             obtain ⟨⟨t500, t501⟩, hc24, h⟩ := h
             dsimp only at h
             repeat (first | (rw [iN] at h; obtain ⟨_, h⟩ := h) | (rw [iP] at h; obtain ⟨_, h⟩ := h) | (simp only [bS] at h))
             refine Ox.C true [] Tryd.func43 (impl_IsBetter.ac _ _ _ _ _ _ _ hc24) .nil ?_
             refine Dt.Y rfl wantN Y.mv ?_
             refine Dt.Y rfl wantN Y.ex ?_
             refine Dt.Y rfl wantN Y.ex ?_
             refine Dt.Y rfl wantN Y.asg ?_
             refine Dt.Y rfl wantN Y.asg ?_
             refine Dt.nil ?_
             refine AWp.seq ?_
             refine W.kp [1, 5, 8, 10, 12, 13, 14, 15, 16, 17, 18, 19, 20, 21, 22, 23, 83, 131, 132] ?_
             refine Dt.reg [] [] (.t 0 (.y 1 (.y 2 (.t 3 (.y 4 (.y 5 (.t 6 (.one 7 (.y 8 (.y 9 (.y 10 (.y 11 (.y 12 .done))))))))))))) HM ?_
             refine Dt.T rfl wantN (D.ldN Tryd.underlying30 Y30) ?_
             refine Dt.Y rfl wantN Y.mv ?_
             refine Dt.Y rfl wantN (Y.ixo Tryd.underlying22 Y3) ?_
             refine Dt.T rfl wantN (D.ld Tryd.underlying3) ?_
             refine Dt.Y rfl wantN Y.mv ?_
             refine Dt.Y rfl wantN (Y.ixo Tryd.underlying22 Y3) ?_
             refine Dt.T rfl wantN (D.ld Tryd.underlying3) ?_
             refine Dt.O (g' := false) rfl wantN ?_
             replace h := Option.bind_eq_some_iff.1 h
             obtain ⟨⟨t504, t505⟩, hc25, h⟩ := h
             dsimp only at h
             refine Ox.C true [] Tryd.func43 (impl_IsBetter.ac _ _ _ _ _ _ _ hc25) .nil ?_
             refine Dt.Y rfl wantN Y.mv ?_
             refine Dt.Y rfl wantN Y.ex ?_
             refine Dt.Y rfl wantN Y.ex ?_
             refine Dt.Y rfl wantN Y.asg ?_
             refine Dt.Y rfl wantN Y.asg ?_
             refine Dt.nil ?_
             refine AWp.seq ?_
             refine W.kp [1, 5, 8, 10, 12, 13, 14, 15, 16, 17, 18, 19, 20, 21, 22, 23, 24, 25, 83, 131, 132] ?_
             refine Dt.reg [] [] (.t 0 (.y 1 (.y 2 (.t 3 (.y 4 (.y 5 (.t 6 (.one 7 (.y 8 (.y 9 (.y 10 (.y 11 (.y 12 .done))))))))))))) HM ?_
             refine Dt.T rfl wantN (D.ldN Tryd.underlying30 Y30) ?_
             refine Dt.Y rfl wantN Y.mv ?_
             refine Dt.Y rfl wantN (Y.ixo Tryd.underlying22 Y3) ?_
             refine Dt.T rfl wantN (D.ld Tryd.underlying3) ?_
             refine Dt.Y rfl wantN Y.mv ?_
             refine Dt.Y rfl wantN (Y.ixo Tryd.underlying22 Y3) ?_
             refine Dt.T rfl wantN (D.ld Tryd.underlying3) ?_
             refine Dt.O (g' := false) rfl wantN ?_
             replace h := Option.bind_eq_some_iff.1 h
             obtain ⟨⟨t508, t509⟩, hc26, h⟩ := h
             dsimp only at h
             refine Ox.C true [] Tryd.func43 (impl_IsBetter.ac _ _ _ _ _ _ _ hc26) .nil ?_
             refine Dt.Y rfl wantN Y.mv ?_
             refine Dt.Y rfl wantN Y.ex ?_
             refine Dt.Y rfl wantN Y.ex ?_
             refine Dt.Y rfl wantN Y.asg ?_
             refine Dt.Y rfl wantN Y.asg ?_
             refine Dt.nil ?_
             refine AWp.seq ?_
             refine W.kp [1, 5, 8, 10, 12, 13, 14, 15, 16, 17, 18, 19, 20, 21, 22, 23, 24, 25, 26, 27, 83, 131, 132] ?_
             refine Dt.reg [] [] (.t 0 (.y 1 (.y 2 (.t 3 (.y 4 (.y 5 (.t 6 (.one 7 (.y 8 (.y 9 (.y 10 (.y 11 (.y 12 .done))))))))))))) HM ?_
             refine Dt.T rfl wantN (D.ldN Tryd.underlying30 Y30) ?_
             refine Dt.Y rfl wantN Y.mv ?_
             refine Dt.Y rfl wantN (Y.ixo Tryd.underlying22 Y3) ?_
             refine Dt.T rfl wantN (D.ld Tryd.underlying3) ?_
             refine Dt.Y rfl wantN Y.mv ?_
             refine Dt.Y rfl wantN (Y.ixo Tryd.underlying22 Y3) ?_
             refine Dt.T rfl wantN (D.ld Tryd.underlying3) ?_
             refine Dt.O (g' := false) rfl wantN ?_
             replace h := Option.bind_eq_some_iff.1 h
             obtain ⟨⟨t512, t513⟩, hc27, h⟩ := h
             dsimp only at h
             refine Ox.C true [] Tryd.func43 (impl_IsBetter.ac _ _ _ _ _ _ _ hc27) .nil ?_
             refine Dt.Y rfl wantN Y.mv ?_
             refine Dt.Y rfl wantN Y.ex ?_
             refine Dt.Y rfl wantN Y.ex ?_
             refine Dt.Y rfl wantN Y.asg ?_
             refine Dt.Y rfl wantN Y.asg ?_
             refine Dt.nil ?_
             refine AWp.seq ?_
             refine W.kp [1, 5, 8, 10, 12, 13, 14, 15, 16, 17, 18, 19, 20, 21, 22, 23, 24, 25, 26, 27, 28, 29, 83, 131, 132] ?_
             refine AWp.region ?_
             refine L.Y Y.mv ?_
             refine L.Y Y.nt ?_
             refine L.Y Y.mv ?_
             refine L.Gc (fun hb => ?_) (fun hb => ?_)
             ·
              have hb28 := hb
              try simp only [hS, hE, ne_eq] at hb
              first | rw [if_pos hb28] at h | rw [if_neg (Bool.eq_false_iff.1 hb28)] at h | rw [if_pos hb] at h | rw [if_neg hb] at h | (simp only [hb, hT, reduceIte] at h) | skip
              exfalso
              revert h
              exact fun h => by simp at h
             ·
              have hb28 := hb
              try simp only [hS, hE, ne_eq] at hb
              first | rw [if_pos hb28] at h | rw [if_neg (Bool.eq_false_iff.1 hb28)] at h | rw [if_pos hb] at h | rw [if_neg hb] at h | (simp only [hb, hT, reduceIte] at h) | skip
              refine L.Gy hb28 Y.mv ?_
              refine L.Gy hb28 Y.nt ?_
              refine L.Y (Y.pk (c := false) hb28) ?_
              refine L.Y Y.mv ?_
              refine L.Gc (fun hb => ?_) (fun hb => ?_)
              ·
               have hb29 := hb
               try simp only [hS, hE, ne_eq] at hb
               first | rw [if_pos hb29] at h | rw [if_neg (Bool.eq_false_iff.1 hb29)] at h | rw [if_pos hb] at h | rw [if_neg hb] at h | (simp only [hb, hT, reduceIte] at h) | skip
               exfalso
               revert h
               exact fun h => by simp at h
              ·
               have hb29 := hb
               try simp only [hS, hE, ne_eq] at hb
               first | rw [if_pos hb29] at h | rw [if_neg (Bool.eq_false_iff.1 hb29)] at h | rw [if_pos hb] at h | rw [if_neg hb] at h | (simp only [hb, hT, reduceIte] at h) | skip
               refine L.Gy hb29 Y.mv ?_
               refine L.Gy hb29 Y.nt ?_
               refine L.Y (Y.pk (c := false) hb29) ?_
               refine L.Y Y.mv ?_
               refine L.Gc (fun hb => ?_) (fun hb => ?_)
               ·
                have hb30 := hb
                try simp only [hS, hE, ne_eq] at hb
                first | rw [if_pos hb30] at h | rw [if_neg (Bool.eq_false_iff.1 hb30)] at h | rw [if_pos hb] at h | rw [if_neg hb] at h | (simp only [hb, hT, reduceIte] at h) | skip
                exfalso
                revert h
                exact fun h => by simp at h
               ·
                have hb30 := hb
                try simp only [hS, hE, ne_eq] at hb
                first | rw [if_pos hb30] at h | rw [if_neg (Bool.eq_false_iff.1 hb30)] at h | rw [if_pos hb] at h | rw [if_neg hb] at h | (simp only [hb, hT, reduceIte] at h) | skip
                refine L.Gy hb30 Y.mv ?_
                refine L.Gy hb30 Y.nt ?_
                refine L.Y (Y.pk (c := false) hb30) ?_
                refine L.Y Y.mv ?_
                refine L.Gc (fun hb => ?_) (fun hb => ?_)
                ·
                 have hb31 := hb
                 try simp only [hS, hE, ne_eq] at hb
                 first | rw [if_pos hb31] at h | rw [if_neg (Bool.eq_false_iff.1 hb31)] at h | rw [if_pos hb] at h | rw [if_neg hb] at h | (simp only [hb, hT, reduceIte] at h) | skip
                 exfalso
                 revert h
                 exact fun h => by simp at h
                ·
                 have hb31 := hb
                 try simp only [hS, hE, ne_eq] at hb
                 first | rw [if_pos hb31] at h | rw [if_neg (Bool.eq_false_iff.1 hb31)] at h | rw [if_pos hb] at h | rw [if_neg hb] at h | (simp only [hb, hT, reduceIte] at h) | skip
                 refine L.Gy hb31 Y.mv ?_
                 refine L.Gy hb31 Y.nt ?_
                 refine L.Y (Y.pk (c := false) hb31) ?_
                 refine L.Y Y.mv ?_
                 refine L.Gc (fun hb => ?_) (fun hb => ?_)
                 ·
                  have hb32 := hb
                  try simp only [hS, hE, ne_eq] at hb
                  first | rw [if_pos hb32] at h | rw [if_neg (Bool.eq_false_iff.1 hb32)] at h | rw [if_pos hb] at h | rw [if_neg hb] at h | (simp only [hb, hT, reduceIte] at h) | skip
                  exfalso
                  revert h
                  exact fun h => by simp at h
                 ·
                  have hb32 := hb
                  try simp only [hS, hE, ne_eq] at hb
                  first | rw [if_pos hb32] at h | rw [if_neg (Bool.eq_false_iff.1 hb32)] at h | rw [if_pos hb] at h | rw [if_neg hb] at h | (simp only [hb, hT, reduceIte] at h) | skip
                  refine L.Gy hb32 Y.mv ?_
                  refine L.Gy hb32 Y.nt ?_
                  refine L.Y (Y.pk (c := false) hb32) ?_
                  refine L.Y Y.mv ?_
                  refine L.Gc (fun hb => ?_) (fun hb => ?_)
                  ·
                   have hb33 := hb
                   try simp only [hS, hE, ne_eq] at hb
                   first | rw [if_pos hb33] at h | rw [if_neg (Bool.eq_false_iff.1 hb33)] at h | rw [if_pos hb] at h | rw [if_neg hb] at h | (simp only [hb, hT, reduceIte] at h) | skip
                   exfalso
                   revert h
                   exact fun h => by simp at h
                  ·
                   have hb33 := hb
                   try simp only [hS, hE, ne_eq] at hb
                   first | rw [if_pos hb33] at h | rw [if_neg (Bool.eq_false_iff.1 hb33)] at h | rw [if_pos hb] at h | rw [if_neg hb] at h | (simp only [hb, hT, reduceIte] at h) | skip
                   refine L.Gy hb33 Y.mv ?_
                   refine L.Y (Y.pk (c := false) hb33) ?_
                   refine L.Y Y.mv ?_
                   refine L.Gc (fun hb => ?_) (fun hb => ?_)
                   ·
                    have hb34 := hb
                    try simp only [hS, hE, ne_eq] at hb
                    first | rw [if_pos hb34] at h | rw [if_neg (Bool.eq_false_iff.1 hb34)] at h | rw [if_pos hb] at h | rw [if_neg hb] at h | (simp only [hb, hT, reduceIte] at h) | skip
                    exfalso
                    revert h
                    exact fun h => by simp at h
                   ·
                    have hb34 := hb
                    try simp only [hS, hE, ne_eq] at hb
                    first | rw [if_pos hb34] at h | rw [if_neg (Bool.eq_false_iff.1 hb34)] at h | rw [if_pos hb] at h | rw [if_neg hb] at h | (simp only [hb, hT, reduceIte] at h) | skip
                    refine L.Gy hb34 Y.mv ?_
                    refine L.Y (Y.pk (c := false) hb34) ?_
                    refine AList.nil ?_
                    refine W.cond (fun hb => ?_) (fun hb => ?_)
                    ·
                     have hb35 := hb
                     try simp only [hS, hE, ne_eq] at hb
                     first | rw [if_pos hb35] at h | rw [if_neg (Bool.eq_false_iff.1 hb35)] at h | rw [if_pos hb] at h | rw [if_neg hb] at h | (simp only [hb, hT, reduceIte] at h) | skip
                     exfalso
                     revert h
                     exact fun h => by simp at h
                    ·
                     have hb35 := hb
                     try simp only [hS, hE, ne_eq] at hb
                     first | rw [if_pos hb35] at h | rw [if_neg (Bool.eq_false_iff.1 hb35)] at h | rw [if_pos hb] at h | rw [if_neg hb] at h | (simp only [hb, hT, reduceIte] at h) | skip
                     refine AWp.skip ?_
                     refine AWp.seq ?_
                     refine W.kp [1, 5, 8, 10, 12, 13, 14, 15, 16, 17, 18, 19, 20, 21, 22, 23, 24, 25, 26, 27, 28, 29, 83, 131, 132, 204] ?_
                     refine AWp.region ?_
                     refine L.Y Y.mv ?_
                     rcases k11 with _ | k11
                     ·
                      exact absurd h (by simp [laws_FnOrdersAsTables.j4])
                     simp only [laws_FnOrdersAsTables.j4] at h
                     replace h := Option.bind_eq_some_iff.1 h
                     obtain ⟨⟨t514, t515⟩, hc36, h⟩ := h
                     dsimp only at h
                     refine L.C (C.callE (l := true) [] Tryd.func44 (spec_DrawCountBiorders.ac _ _ _ hc36) .nil ?_)
                     refine L.Y Y.mv ?_
                     refine L.Y Y.ex ?_
                     refine L.Y Y.ex ?_
                     refine L.Y Y.asg ?_
                     refine L.Y Y.asg ?_
                     refine AList.nil ?_
                     refine AWp.seq ?_
                     refine W.kp [1, 5, 8, 10, 12, 13, 14, 15, 16, 17, 18, 19, 20, 21, 22, 23, 24, 25, 26, 27, 28, 29, 30, 31, 83, 131, 132, 204] ?_
                     refine AWp.region ?_
                     refine L.Y Y.mv ?_
                     refine L.Y Y.mv ?_
                     replace h := Option.bind_eq_some_iff.1 h
                     obtain ⟨⟨t516, t517⟩, hc37, h⟩ := h
                     dsimp only at h
                     refine L.C (C.callE (l := true) [] Tryd.func45 (impl_CountBiorders.ac _ _ _ _ _ hc37) .nil ?_)
                     refine L.Y Y.mv ?_
                     refine L.Y Y.ex ?_
                     refine L.Y Y.ex ?_
                     refine L.Y Y.asg ?_
                     refine L.Y Y.asg ?_
                     refine AList.nil ?_
                     refine AWp.seq ?_
                     refine W.kp [1, 5, 8, 10, 12, 13, 14, 15, 16, 17, 18, 19, 20, 21, 22, 23, 24, 25, 26, 27, 28, 29, 30, 31, 32, 33, 83, 131, 132, 204] ?_
                     refine AWp.region ?_
                     refine L.Y Y.mv ?_
                     refine L.Y Y.mv ?_
                     replace h := Option.bind_eq_some_iff.1 h
                     obtain ⟨⟨t518, t519⟩, hc38, h⟩ := h
                     dsimp only at h
                     refine L.C (C.callE (l := true) [] Tryd.func46 (spec_CountBiorders.ac _ _ _ _ _ hc38) .nil ?_)
                     refine L.Y Y.mv ?_
                     refine L.Y Y.ex ?_
                     refine L.Y Y.ex ?_
                     refine L.Y Y.asg ?_
                     refine L.Y Y.asg ?_
                     refine AList.nil ?_
                     refine AWp.seq ?_
                     refine AWp.seq ?_
                     refine W.kp [1, 5, 8, 10, 12, 13, 14, 15, 16, 17, 18, 19, 20, 21, 22, 23, 24, 25, 26, 27, 28, 29, 30, 31, 32, 33, 34, 35, 83, 131, 132, 204] ?_
                     refine AWp.region ?_
                     refine L.Y Y.mv ?_
                     refine L.Y Y.mv ?_
                     refine L.Y (Y.bb Tryd.underlying4) ?_
                     refine L.Y Y.mv ?_
                     refine L.Gc (fun hb => ?_) (fun hb => ?_)
                     ·
                      have hb39 := hb
                      try simp only [hS, hE, ne_eq] at hb
                      first | rw [if_pos hb39] at h | rw [if_neg (Bool.eq_false_iff.1 hb39)] at h | rw [if_pos hb] at h | rw [if_neg hb] at h | (simp only [hb, hT, reduceIte] at h) | skip
                      exfalso
                      revert h
                      exact fun h => by cases k11 <;> simp [laws_FnOrdersAsTables.j5] at h
                     ·
                      have hb39 := hb
                      try simp only [hS, hE, ne_eq] at hb
                      first | rw [if_pos hb39] at h | rw [if_neg (Bool.eq_false_iff.1 hb39)] at h | rw [if_pos hb] at h | rw [if_neg hb] at h | (simp only [hb, hT, reduceIte] at h) | skip
                      refine L.Gy hb39 Y.mv ?_
                      refine L.Gy hb39 Y.mv ?_
                      refine L.Gy hb39 Y.bin ?_
                      refine L.Y (Y.pk (c := false) hb39) ?_
                      refine AList.nil ?_
                      rcases k11 with _ | k11
                      ·
                       exact absurd h (by simp [laws_FnOrdersAsTables.j5])
                      simp only [laws_FnOrdersAsTables.j5] at h
                      refine W.cond (fun hb => ?_) (fun hb => ?_)
                      ·
                       have hb40 := hb
                       try simp only [hS, hE, ne_eq] at hb
                       first | rw [if_pos hb40] at h | rw [if_neg (Bool.eq_false_iff.1 hb40)] at h | rw [if_pos hb] at h | rw [if_neg hb] at h | (simp only [hb, hT, reduceIte] at h) | skip
                       exfalso
                       revert h
                       exact fun h => by simp at h
                      ·
                       have hb40 := hb
                       try simp only [hS, hE, ne_eq] at hb
                       first | rw [if_pos hb40] at h | rw [if_neg (Bool.eq_false_iff.1 hb40)] at h | rw [if_pos hb] at h | rw [if_neg hb] at h | (simp only [hb, hT, reduceIte] at h) | skip
                       refine AWp.skip ?_
                       refine AWp.seq ?_
                       refine AWp.seq ?_
                       refine W.kp [1, 5, 8, 10, 12, 13, 14, 15, 16, 17, 18, 19, 20, 21, 22, 23, 24, 25, 26, 27, 28, 29, 30, 31, 32, 33, 34, 35, 83, 131, 132, 204, 229] ?_
                       refine AWp.region ?_
                       refine L.Y Y.mv ?_
                       refine L.Y Y.mv ?_
                       refine L.Gc (fun hb => ?_) (fun hb => ?_)
                       ·
                        have hb41 := hb
                        try simp only [hS, hE, ne_eq] at hb
                        first | rw [if_pos hb41] at h | rw [if_neg (Bool.eq_false_iff.1 hb41)] at h | rw [if_pos hb] at h | rw [if_neg hb] at h | (simp only [hb, hT, reduceIte] at h) | skip
                        refine L.Gy hb41 Y.mv ?_
                        refine L.Gy hb41 Y.mv ?_
                        refine L.Gy hb41 Y.bin ?_
                        refine L.Gy hb41 Y.bin ?_
                        refine L.Y (Y.pk (c := true) hb41) ?_
                        refine AList.nil ?_
                        rcases k11 with _ | k11
                        ·
                         exact absurd h (by simp [laws_FnOrdersAsTables.j6])
                        simp only [laws_FnOrdersAsTables.j6] at h
                        refine W.cond (fun hb => ?_) (fun hb => ?_)
                        ·
                         have hb42 := hb
                         try simp only [hS, hE, ne_eq] at hb
                         first | rw [if_pos hb42] at h | rw [if_neg (Bool.eq_false_iff.1 hb42)] at h | rw [if_pos hb] at h | rw [if_neg hb] at h | (simp only [hb, hT, reduceIte] at h) | skip
                         refine AWp.seq ?_
                         refine W.kp [1, 5, 8, 10, 12, 13, 14, 15, 16, 17, 18, 19, 20, 21, 22, 23, 24, 25, 26, 27, 28, 29, 30, 31, 32, 33, 34, 35, 83, 131, 132, 204, 229, 236] ?_
                         refine AWp.region ?_
                         refine L.Y Y.asg ?_
                         refine AList.nil ?_
                         refine AWp.seq ?_
                         refine AWp.seq ?_
                         refine AWp.region ?_
                         refine L.Y Y.asg ?_
                         refine AList.nil ?_
                         refine AWp.block ?_
                         refine AWp.loopI (fun kk e H => kk ≤ k11 ∧ ∃ (x30 : Int) (x31 : Int) (x32 : Int) (x36 : Int) (x37 : Int) (x465000 : Int) (x472000 : Int) (x472001 : Int) (x472002 : List Int) (x479000 : Int) (x479001 : Int) (x479002 : List Int) (x900007000 : Int) (x900007001 : Int) (x900007002 : List Int), e = [(5, .ptr 0 0), (8, .ptr 1 0), (10, .ptr 2 0), (14, .ptr 3 0), (30, .lit (.int .i64 x30)), (31, .lit (.int .i64 x31)), (32, .lit (.int .i64 x32)), (36, .lit (.int .i64 x36)), (37, .lit (.int .i64 x37))] ∧ H = [.bx 30 [.lit (.int .i64 x465000), .row 1 x465001.length false (ints .i64 x465001)], .bx 27 [.lit (.int .i64 x472000), .lit (.int .i64 x472001), .own 4 x472002.length], .bx 27 [.lit (.int .i64 x479000), .lit (.int .i64 x479001), .own 5 x479002.length], .bx 27 [.lit (.int .i64 x900007000), .lit (.int .i64 x900007001), .own 6 x900007002.length], .sl 3 1 x472002.length false (ints .i64 x472002), .sl 3 1 x479002.length false (ints .i64 x479002), .sl 3 1 x900007002.length false (ints .i64 x900007002)] ∧ laws_FnOrdersAsTables.l1 kk x30 x31 x32 x36 x37 = some true) (k := k11)
                          ⟨_, _, ⟨Nat.le_refl _, _, _, _, _, _, _, _, _, _, _, _, _, _, _, _, rfl, rfl, h⟩, IsPart.at [] [0, 1, 2, 7, 4, 5, 6] base0 (H.c (H.c (H.c (H.c (H.c (H.c (H.c .nil))))))) (E.c (E.c (E.c (E.c (E.c (E.c (E.c (E.c (E.c .nil)))))))))⟩ ?_
                         clear h
                         rintro k43 e H ⟨hk44, x30, x31, x32, x36, x37, x465000, x472000, x472001, x472002, x479000, x479001, x479002, x900007000, x900007001, x900007002, rfl, rfl, h⟩
                         cases k43 with
                         | zero => exact absurd h (by simp [laws_FnOrdersAsTables.l1])
                         | succ k43 =>
                         simp only [laws_FnOrdersAsTables.l1] at h
                         repeat (first | (rw [iN] at h; obtain ⟨_, h⟩ := h) | (rw [iP] at h; obtain ⟨_, h⟩ := h) | (simp only [bS] at h))
                         refine AWp.seq ?_
                         refine AWp.seq ?_
                         refine AWp.region ?_
                         refine L.Y Y.mv ?_
                         refine L.Y Y.mv ?_
                         refine L.Y Y.mv ?_
                         refine L.Y Y.bin ?_
                         refine L.Y Y.bin ?_
                         refine L.Y Y.bin ?_
                         refine AList.nil ?_
                         refine W.cond (fun hb => ?_) (fun hb => ?_)
                         ·
                          have hb45 := hb
                          try simp only [hS, hE, ne_eq] at hb
                          first | rw [if_pos hb45] at h | rw [if_neg (Bool.eq_false_iff.1 hb45)] at h | rw [if_pos hb] at h | rw [if_neg hb] at h | (simp only [hb, hT, reduceIte] at h) | skip
                          refine AWp.skip ?_
                          refine AWp.seq ?_
                          refine AWp.block ?_
                          refine AWp.seq ?_
                          refine W.kp [5, 8, 10, 14, 30, 31, 32, 36, 37, 242] ?_
                          refine AWp.region ?_
                          refine L.Y Y.mv ?_
                          refine L.Y Y.mv ?_
                          refine L.Y (Y.bd Tryd.underlying27 Y27 P27) ?_
                          refine L.M (M.al Y27) ?_
                          refine L.S (S.stb Y27) ?_
                          refine AList.nil ?_
                          refine AWp.seq ?_
                          refine AWp.seq ?_
                          refine AWp.region ?_
                          refine L.Y Y.asg ?_
                          refine AList.nil ?_
                          refine AWp.block ?_
                          refine AWp.loopI (fun kk e H => kk ≤ k43 ∧ ∃ (x30 : Int) (x31 : Int) (x32 : Int) (x36 : Int) (x37 : Int) (x39 : Int) (x465000 : Int) (x472000 : Int) (x472001 : Int) (x472002 : List Int) (x479000 : Int) (x479001 : Int) (x479002 : List Int) (x900003000 : Int) (x900003001 : Int) (x900003002 : List Int) (x521000 : Int) (x521001 : Int) (x521002 : List Int), e = [(5, .ptr 0 0), (8, .ptr 1 0), (10, .ptr 2 0), (14, .ptr 3 0), (30, .lit (.int .i64 x30)), (31, .lit (.int .i64 x31)), (32, .lit (.int .i64 x32)), (36, .lit (.int .i64 x36)), (37, .lit (.int .i64 x37)), (38, .ptr 4 0), (39, .lit (.int .i64 x39))] ∧ H = [.bx 30 [.lit (.int .i64 x465000), .row 1 x465001.length false (ints .i64 x465001)], .bx 27 [.lit (.int .i64 x472000), .lit (.int .i64 x472001), .own 5 x472002.length], .bx 27 [.lit (.int .i64 x479000), .lit (.int .i64 x479001), .own 6 x479002.length], .bx 27 [.lit (.int .i64 x900003000), .lit (.int .i64 x900003001), .own 7 x900003002.length], .bx 27 [.lit (.int .i64 x521000), .lit (.int .i64 x521001), .own 8 x521002.length], .sl 3 1 x472002.length false (ints .i64 x472002), .sl 3 1 x479002.length false (ints .i64 x479002), .sl 3 1 x900003002.length false (ints .i64 x900003002), .sl 3 1 x521002.length false (ints .i64 x521002)] ∧ laws_FnOrdersAsTables.l2 kk x30 x31 x32 x36 x37 x39 x521000 x521001 x521002 = some true) (k := k43)
                           ⟨_, _, ⟨Nat.le_refl _, _, _, _, _, _, _, _, _, _, _, _, _, _, _, _, _, _, _, _, rfl, rfl, h⟩, IsPart.at [(3, 1)] [0, 1, 2, 3, 7, 4, 5, 6, 8] base0 (H.c (H.c (H.c (H.c (H.c (H.c (H.c (H.c (H.c .nil))))))))) (E.c (E.c (E.c (E.c (E.c (E.c (E.c (E.c (E.c (E.c (E.c .nil)))))))))))⟩ ?_
                          clear h
                          rintro k46 e H ⟨hk47, x30, x31, x32, x36, x37, x39, x465000, x472000, x472001, x472002, x479000, x479001, x479002, x900003000, x900003001, x900003002, x521000, x521001, x521002, rfl, rfl, h⟩
                          cases k46 with
                          | zero => exact absurd h (by simp [laws_FnOrdersAsTables.l2])
                          | succ k46 =>
                          simp only [laws_FnOrdersAsTables.l2] at h
                          refine AWp.seq ?_
                          refine AWp.seq ?_
                          refine AWp.region ?_
                          refine L.Y Y.mv ?_
                          refine L.Y Y.mv ?_
                          refine L.Y Y.bin ?_
                          refine AList.nil ?_
                          refine W.cond (fun hb => ?_) (fun hb => ?_)
                          ·
                           have hb48 := hb
                           try simp only [hS, hE, ne_eq] at hb
                           first | rw [if_pos hb48] at h | rw [if_neg (Bool.eq_false_iff.1 hb48)] at h | rw [if_pos hb] at h | rw [if_neg hb] at h | (simp only [hb, hT, reduceIte] at h) | skip
                           repeat (first | (rw [iN] at h; obtain ⟨_, h⟩ := h) | (rw [iP] at h; obtain ⟨_, h⟩ := h) | (simp only [bS] at h))
                           refine AWp.skip ?_
                           refine AWp.seq ?_
                           refine AWp.block ?_
                           refine Dt.reg [] [12, 14] (.y 0 (.t 1 (.y 2 (.y 3 (.y 4 (.y 5 (.y 6 (.y 7 (.y 8 (.y 9 (.y 10 (.one 11 (.last 12 (.y 13 (.one 14 .done))))))))))))))) HM ?_
                           refine Dt.Y rfl wantN (Y.fa (off := 2) Tryd.underlying27 Y22) ?_
                           refine Dt.T rfl wantN (D.ld Tryd.underlying22) ?_
                           refine Dt.Y rfl wantN Y.mv ?_
                           refine Dt.Y rfl wantN Y.mv ?_
                           refine Dt.Y rfl wantN Y.mv ?_
                           refine Dt.Y rfl wantN Y.bin ?_
                           refine Dt.Y rfl wantN Y.bin ?_
                           refine Dt.Y rfl wantN Y.mv ?_
                           refine Dt.Y rfl wantN Y.bin ?_
                           refine Dt.Y rfl wantN Y.bin ?_
                           refine Dt.Y rfl wantN Y.bin ?_
                           refine Dt.O (g' := false) rfl wantN ?_
                           refine Ox.M (M.bs Tryd.underlying22 Y3) ?_
                           refine Dt.L rfl wantN ?_
                           refine Op.S (S.ap (nn' := false) Tryd.underlying22 Y3) ?_
                           refine Du.Y rfl wantN (Y.fa (off := 2) Tryd.underlying27 Y22) ?_
                           refine Du.L rfl wantN ?_
                           refine Op.S (S.stb Y22) ?_
                           refine Du.nil ?_
                           refine W.kp [5, 8, 10, 14, 30, 31, 32, 36, 37, 38, 39, 250] ?_
                           refine AWp.region ?_
                           refine L.Y Y.mv ?_
                           refine L.Y Y.bin ?_
                           refine L.Y Y.asg ?_
                           refine AList.nil ?_
                           exact ⟨k46, by omega, _, _, ⟨by omega, _, _, _, _, _, _, _, _, _, _, _, _, _, _, _, _, _, _, _, rfl, rfl, h⟩, IsPart.at [] [0, 1, 2, 3, 4, 5, 6, 7, 8] base0 (H.c (H.c (H.c (H.c (H.c (H.c (H.c (H.c (H.c .nil))))))))) (E.c (E.c (E.c (E.c (E.c (E.c (E.c (E.c (E.c (E.c (E.c .nil)))))))))))⟩
                          ·
                           have hb48 := hb
                           try simp only [hS, hE, ne_eq] at hb
                           first | rw [if_pos hb48] at h | rw [if_neg (Bool.eq_false_iff.1 hb48)] at h | rw [if_pos hb] at h | rw [if_neg hb] at h | (simp only [hb, hT, reduceIte] at h) | skip
                           refine AWp.exit ?_
                           refine AWp.seq ?_
                           refine AWp.region ?_
                           refine L.S (S.ldN Tryd.underlying27 Y27) ?_
                           replace h := Option.bind_eq_some_iff.1 h
                           obtain ⟨⟨t524, t525⟩, hc49, h⟩ := h
                           dsimp only at h
                           refine L.C (C.callE (l := true) [] Tryd.func40 (impl_IsBiorder.ac _ _ _ _ _ _ hc49) .nil ?_)
                           refine L.Y Y.mv ?_
                           refine L.Y Y.ex ?_
                           refine L.Y Y.ex ?_
                           refine L.Y Y.asg ?_
                           refine L.Y Y.asg ?_
                           refine AList.nil ?_
                           refine AWp.seq ?_
                           refine AWp.seq ?_
                           refine W.kp [5, 8, 10, 14, 30, 31, 32, 36, 37, 38, 39, 40, 41, 250] ?_
                           refine AWp.region ?_
                           refine L.Y Y.mv ?_
                           refine L.Y Y.nt ?_
                           refine AList.nil ?_
                           refine W.cond (fun hb => ?_) (fun hb => ?_)
                           ·
                            have hb50 := hb
                            try simp only [hS, hE, ne_eq] at hb
                            first | rw [if_pos hb50] at h | rw [if_neg (Bool.eq_false_iff.1 hb50)] at h | rw [if_pos hb] at h | rw [if_neg hb] at h | (simp only [hb, hT, reduceIte] at h) | skip
                            exfalso
                            revert h
                            exact fun h => by simp at h
                           ·
                            have hb50 := hb
                            try simp only [hS, hE, ne_eq] at hb
                            first | rw [if_pos hb50] at h | rw [if_neg (Bool.eq_false_iff.1 hb50)] at h | rw [if_pos hb] at h | rw [if_neg hb] at h | (simp only [hb, hT, reduceIte] at h) | skip
                            refine AWp.skip ?_
                            refine AWp.seq ?_
                            refine AWp.region ?_
                            refine L.Y Y.mv ?_
                            refine AList.nil ?_
                            refine W.cond (fun hb => ?_) (fun hb => ?_)
                            ·
                             have hb51 := hb
                             try simp only [hS, hE, ne_eq] at hb
                             first | rw [if_pos hb51] at h | rw [if_neg (Bool.eq_false_iff.1 hb51)] at h | rw [if_pos hb] at h | rw [if_neg hb] at h | (simp only [hb, hT, reduceIte] at h) | skip
                             refine AWp.region ?_
                             refine L.Y Y.mv ?_
                             refine L.Y Y.bin ?_
                             refine L.Y Y.asg ?_
                             refine AList.nil ?_
                             refine AWp.region ?_
                             refine L.Y Y.mv ?_
                             refine L.Y Y.bin ?_
                             refine L.Y Y.asg ?_
                             refine AList.nil ?_
                             exact ⟨k46, by omega, _, _, ⟨by omega, _, _, _, _, _, _, _, _, _, _, _, _, _, _, _, rfl, rfl, h⟩, IsPart.at [] [0, 1, 2, 3, 5, 6, 7] base0 (H.c (H.c (H.c (H.c (H.c (H.c (H.c .nil))))))) (E.c (E.c (E.c (E.c (E.c (E.c (E.c (E.c (E.c .nil)))))))))⟩
                            ·
                             have hb51 := hb
                             try simp only [hS, hE, ne_eq] at hb
                             first | rw [if_pos hb51] at h | rw [if_neg (Bool.eq_false_iff.1 hb51)] at h | rw [if_pos hb] at h | rw [if_neg hb] at h | (simp only [hb, hT, reduceIte] at h) | skip
                             refine AWp.skip ?_
                             refine AWp.region ?_
                             refine L.Y Y.mv ?_
                             refine L.Y Y.bin ?_
                             refine L.Y Y.asg ?_
                             refine AList.nil ?_
                             exact ⟨k46, by omega, _, _, ⟨by omega, _, _, _, _, _, _, _, _, _, _, _, _, _, _, _, rfl, rfl, h⟩, IsPart.at [] [0, 1, 2, 3, 5, 6, 7] base0 (H.c (H.c (H.c (H.c (H.c (H.c (H.c .nil))))))) (E.c (E.c (E.c (E.c (E.c (E.c (E.c (E.c (E.c .nil)))))))))⟩
                         ·
                          have hb45 := hb
                          try simp only [hS, hE, ne_eq] at hb
                          first | rw [if_pos hb45] at h | rw [if_neg (Bool.eq_false_iff.1 hb45)] at h | rw [if_pos hb] at h | rw [if_neg hb] at h | (simp only [hb, hT, reduceIte] at h) | skip
                          refine AWp.exit ?_
                          refine AWp.seq ?_
                          refine W.kp [5, 8, 10, 14, 30, 31, 32, 36, 37, 242] ?_
                          refine AWp.region ?_
                          refine L.Y Y.mv ?_
                          refine L.Y Y.mv ?_
                          refine L.Y Y.bin ?_
                          refine L.Y Y.asg ?_
                          refine AList.nil ?_
                          refine AWp.ret ?_
                          first | (exfalso; cases h; done) | exact ⟨.inr rfl, [(4, _)], _, ⟨rfl, rfl⟩, IsPart.at [] [] base0 .nil (E.c .nil (hs := Sub.litE (LV h)))⟩
                        ·
                         have hb42 := hb
                         try simp only [hS, hE, ne_eq] at hb
                         first | rw [if_pos hb42] at h | rw [if_neg (Bool.eq_false_iff.1 hb42)] at h | rw [if_pos hb] at h | rw [if_neg hb] at h | (simp only [hb, hT, reduceIte] at h) | skip
                         refine AWp.skip ?_
                         refine AWp.seq ?_
                         refine W.kp [1, 5, 8, 10, 12, 13, 14, 15, 16, 17, 18, 19, 20, 21, 22, 23, 24, 25, 26, 27, 28, 29, 30, 31, 32, 33, 34, 35, 83, 131, 132, 204, 229, 236] ?_
                         refine AWp.region ?_
                         refine L.Y Y.asg ?_
                         refine AList.nil ?_
                         refine AWp.ret ?_
                         first | (exfalso; cases h; done) | exact ⟨.inr rfl, [(4, _)], _, ⟨rfl, rfl⟩, IsPart.at [] [] base0 .nil (E.c .nil (hs := Sub.litE (LV h)))⟩
                       ·
                        have hb41 := hb
                        try simp only [hS, hE, ne_eq] at hb
                        first | rw [if_pos hb41] at h | rw [if_neg (Bool.eq_false_iff.1 hb41)] at h | rw [if_pos hb] at h | rw [if_neg hb] at h | (simp only [hb, hT, reduceIte] at h) | skip
                        refine L.Gn hb41 ?_
                        refine L.Gn hb41 ?_
                        refine L.Gn hb41 ?_
                        refine L.Gn hb41 ?_
                        refine L.Y (Y.pk (c := false) hb41) ?_
                        refine AList.nil ?_
                        rcases k11 with _ | k11
                        ·
                         exact absurd h (by simp [laws_FnOrdersAsTables.j6])
                        simp only [laws_FnOrdersAsTables.j6] at h
                        refine W.cond (fun hb => ?_) (fun hb => ?_)
                        ·
                         first | exact Bool.false_ne_true ((Eq.symm (by assumption)).trans hb) | exact Bool.false_ne_true (hb.symm.trans (by assumption)) | exact DD hb
                        have hb52 := hb
                        try (first | rw [if_pos hb52] at h | rw [if_neg (Bool.eq_false_iff.1 hb52)] at h | rw [if_pos hb] at h | rw [if_neg hb] at h | (simp only [hb, hT, reduceIte] at h) | skip)
                        refine AWp.skip ?_
                        refine AWp.seq ?_
                        refine W.kp [1, 5, 8, 10, 12, 13, 14, 15, 16, 17, 18, 19, 20, 21, 22, 23, 24, 25, 26, 27, 28, 29, 30, 31, 32, 33, 34, 35, 83, 131, 132, 204, 229, 236] ?_
                        refine AWp.region ?_
                        refine L.Y Y.asg ?_
                        refine AList.nil ?_
                        refine AWp.ret ?_
                        first | (exfalso; cases h; done) | exact ⟨.inr rfl, [(4, _)], _, ⟨rfl, rfl⟩, IsPart.at [] [] base0 .nil (E.c .nil (hs := Sub.litE (LV h)))⟩
            ·
             have hb23 := hb
             try simp only [hS, hE, ne_eq] at hb
             first | rw [if_pos hb23] at h | rw [if_neg (Bool.eq_false_iff.1 hb23)] at h | rw [if_pos hb] at h | rw [if_neg hb] at h | (simp only [hb, hT, reduceIte] at h) | skip
             refine AWp.skip ?_
             refine AWp.seq ?_
             refine AWp.region ?_
             refine L.Y Y.mv ?_
             rcases k11 with _ | k11
             ·
              exact absurd h (by simp [laws_FnOrdersAsTables.j4])
             simp only [laws_FnOrdersAsTables.j4] at h
             replace h := Option.bind_eq_some_iff.1 h
             obtain ⟨⟨t514, t515⟩, hc53, h⟩ := h
             dsimp only at h
             refine L.C (C.callE (l := true) [] Tryd.func44 (spec_DrawCountBiorders.ac _ _ _ hc53) .nil ?_)
             refine L.Y Y.mv ?_
             refine L.Y Y.ex ?_
             refine L.Y Y.ex ?_
             refine L.Y Y.asg ?_
             refine L.Y Y.asg ?_
             refine AList.nil ?_
             refine AWp.seq ?_
             refine W.kp [1, 5, 8, 10, 12, 13, 14, 15, 16, 17, 18, 19, 20, 21, 30, 31, 83, 131, 132] ?_
             refine AWp.region ?_
             refine L.Y Y.mv ?_
             refine L.Y Y.mv ?_
             replace h := Option.bind_eq_some_iff.1 h
             obtain ⟨⟨t516, t517⟩, hc54, h⟩ := h
             dsimp only at h
             refine L.C (C.callE (l := true) [] Tryd.func45 (impl_CountBiorders.ac _ _ _ _ _ hc54) .nil ?_)
             refine L.Y Y.mv ?_
             refine L.Y Y.ex ?_
             refine L.Y Y.ex ?_
             refine L.Y Y.asg ?_
             refine L.Y Y.asg ?_
             refine AList.nil ?_
             refine AWp.seq ?_
             refine W.kp [1, 5, 8, 10, 12, 13, 14, 15, 16, 17, 18, 19, 20, 21, 30, 31, 32, 33, 83, 131, 132] ?_
             refine AWp.region ?_
             refine L.Y Y.mv ?_
             refine L.Y Y.mv ?_
             replace h := Option.bind_eq_some_iff.1 h
             obtain ⟨⟨t518, t519⟩, hc55, h⟩ := h
             dsimp only at h
             refine L.C (C.callE (l := true) [] Tryd.func46 (spec_CountBiorders.ac _ _ _ _ _ hc55) .nil ?_)
             refine L.Y Y.mv ?_
             refine L.Y Y.ex ?_
             refine L.Y Y.ex ?_
             refine L.Y Y.asg ?_
             refine L.Y Y.asg ?_
             refine AList.nil ?_
             refine AWp.seq ?_
             refine AWp.seq ?_
             refine W.kp [1, 5, 8, 10, 12, 13, 14, 15, 16, 17, 18, 19, 20, 21, 30, 31, 32, 33, 34, 35, 83, 131, 132] ?_
             refine AWp.region ?_
             refine L.Y Y.mv ?_
             refine L.Y Y.mv ?_
             refine L.Y (Y.bb Tryd.underlying4) ?_
             refine L.Y Y.mv ?_
             refine L.Gc (fun hb => ?_) (fun hb => ?_)
             ·
              have hb56 := hb
              try simp only [hS, hE, ne_eq] at hb
              first | rw [if_pos hb56] at h | rw [if_neg (Bool.eq_false_iff.1 hb56)] at h | rw [if_pos hb] at h | rw [if_neg hb] at h | (simp only [hb, hT, reduceIte] at h) | skip
              exfalso
              revert h
              exact fun h => by cases k11 <;> simp [laws_FnOrdersAsTables.j5] at h
             ·
              have hb56 := hb
              try simp only [hS, hE, ne_eq] at hb
              first | rw [if_pos hb56] at h | rw [if_neg (Bool.eq_false_iff.1 hb56)] at h | rw [if_pos hb] at h | rw [if_neg hb] at h | (simp only [hb, hT, reduceIte] at h) | skip
              refine L.Gy hb56 Y.mv ?_
              refine L.Gy hb56 Y.mv ?_
              refine L.Gy hb56 Y.bin ?_
              refine L.Y (Y.pk (c := false) hb56) ?_
              refine AList.nil ?_
              rcases k11 with _ | k11
              ·
               exact absurd h (by simp [laws_FnOrdersAsTables.j5])
              simp only [laws_FnOrdersAsTables.j5] at h
              refine W.cond (fun hb => ?_) (fun hb => ?_)
              ·
               have hb57 := hb
               try simp only [hS, hE, ne_eq] at hb
               first | rw [if_pos hb57] at h | rw [if_neg (Bool.eq_false_iff.1 hb57)] at h | rw [if_pos hb] at h | rw [if_neg hb] at h | (simp only [hb, hT, reduceIte] at h) | skip
               exfalso
               revert h
               exact fun h => by simp at h
              ·
               have hb57 := hb
               try simp only [hS, hE, ne_eq] at hb
               first | rw [if_pos hb57] at h | rw [if_neg (Bool.eq_false_iff.1 hb57)] at h | rw [if_pos hb] at h | rw [if_neg hb] at h | (simp only [hb, hT, reduceIte] at h) | skip
               refine AWp.skip ?_
               refine AWp.seq ?_
               refine AWp.seq ?_
               refine W.kp [1, 5, 8, 10, 12, 13, 14, 15, 16, 17, 18, 19, 20, 21, 30, 31, 32, 33, 34, 35, 83, 131, 132, 229] ?_
               refine AWp.region ?_
               refine L.Y Y.mv ?_
               refine L.Y Y.mv ?_
               refine L.Gc (fun hb => ?_) (fun hb => ?_)
               ·
                have hb58 := hb
                try simp only [hS, hE, ne_eq] at hb
                first | rw [if_pos hb58] at h | rw [if_neg (Bool.eq_false_iff.1 hb58)] at h | rw [if_pos hb] at h | rw [if_neg hb] at h | (simp only [hb, hT, reduceIte] at h) | skip
                refine L.Gy hb58 Y.mv ?_
                refine L.Gy hb58 Y.mv ?_
                refine L.Gy hb58 Y.bin ?_
                refine L.Gy hb58 Y.bin ?_
                refine L.Y (Y.pk (c := true) hb58) ?_
                refine AList.nil ?_
                rcases k11 with _ | k11
                ·
                 exact absurd h (by simp [laws_FnOrdersAsTables.j6])
                simp only [laws_FnOrdersAsTables.j6] at h
                refine W.cond (fun hb => ?_) (fun hb => ?_)
                ·
                 have hb59 := hb
                 try simp only [hS, hE, ne_eq] at hb
                 first | rw [if_pos hb59] at h | rw [if_neg (Bool.eq_false_iff.1 hb59)] at h | rw [if_pos hb] at h | rw [if_neg hb] at h | (simp only [hb, hT, reduceIte] at h) | skip
                 refine AWp.seq ?_
                 refine W.kp [1, 5, 8, 10, 12, 13, 14, 15, 16, 17, 18, 19, 20, 21, 30, 31, 32, 33, 34, 35, 83, 131, 132, 229, 236] ?_
                 refine AWp.region ?_
                 refine L.Y Y.asg ?_
                 refine AList.nil ?_
                 refine AWp.seq ?_
                 refine AWp.seq ?_
                 refine AWp.region ?_
                 refine L.Y Y.asg ?_
                 refine AList.nil ?_
                 refine AWp.block ?_
                 refine AWp.loopI (fun kk e H => kk ≤ k11 ∧ ∃ (x30 : Int) (x31 : Int) (x32 : Int) (x36 : Int) (x37 : Int) (x465000 : Int) (x472000 : Int) (x472001 : Int) (x472002 : List Int) (x479000 : Int) (x479001 : Int) (x479002 : List Int) (x900007000 : Int) (x900007001 : Int) (x900007002 : List Int), e = [(5, .ptr 0 0), (8, .ptr 1 0), (10, .ptr 2 0), (14, .ptr 3 0), (30, .lit (.int .i64 x30)), (31, .lit (.int .i64 x31)), (32, .lit (.int .i64 x32)), (36, .lit (.int .i64 x36)), (37, .lit (.int .i64 x37))] ∧ H = [.bx 30 [.lit (.int .i64 x465000), .row 1 x465001.length false (ints .i64 x465001)], .bx 27 [.lit (.int .i64 x472000), .lit (.int .i64 x472001), .own 4 x472002.length], .bx 27 [.lit (.int .i64 x479000), .lit (.int .i64 x479001), .own 5 x479002.length], .bx 27 [.lit (.int .i64 x900007000), .lit (.int .i64 x900007001), .own 6 x900007002.length], .sl 3 1 x472002.length false (ints .i64 x472002), .sl 3 1 x479002.length false (ints .i64 x479002), .sl 3 1 x900007002.length false (ints .i64 x900007002)] ∧ laws_FnOrdersAsTables.l1 kk x30 x31 x32 x36 x37 = some true) (k := k11)
                  ⟨_, _, ⟨Nat.le_refl _, _, _, _, _, _, _, _, _, _, _, _, _, _, _, _, rfl, rfl, h⟩, IsPart.at [] [0, 1, 2, 7, 4, 5, 6] base0 (H.c (H.c (H.c (H.c (H.c (H.c (H.c .nil))))))) (E.c (E.c (E.c (E.c (E.c (E.c (E.c (E.c (E.c .nil)))))))))⟩ ?_
                 clear h
                 rintro k60 e H ⟨hk61, x30, x31, x32, x36, x37, x465000, x472000, x472001, x472002, x479000, x479001, x479002, x900007000, x900007001, x900007002, rfl, rfl, h⟩
                 cases k60 with
                 | zero => exact absurd h (by simp [laws_FnOrdersAsTables.l1])
                 | succ k60 =>
                 simp only [laws_FnOrdersAsTables.l1] at h
                 repeat (first | (rw [iN] at h; obtain ⟨_, h⟩ := h) | (rw [iP] at h; obtain ⟨_, h⟩ := h) | (simp only [bS] at h))
                 refine AWp.seq ?_
                 refine AWp.seq ?_
                 refine AWp.region ?_
                 refine L.Y Y.mv ?_
                 refine L.Y Y.mv ?_
                 refine L.Y Y.mv ?_
                 refine L.Y Y.bin ?_
                 refine L.Y Y.bin ?_
                 refine L.Y Y.bin ?_
                 refine AList.nil ?_
                 refine W.cond (fun hb => ?_) (fun hb => ?_)
                 ·
                  have hb62 := hb
                  try simp only [hS, hE, ne_eq] at hb
                  first | rw [if_pos hb62] at h | rw [if_neg (Bool.eq_false_iff.1 hb62)] at h | rw [if_pos hb] at h | rw [if_neg hb] at h | (simp only [hb, hT, reduceIte] at h) | skip
                  refine AWp.skip ?_
                  refine AWp.seq ?_
                  refine AWp.block ?_
                  refine AWp.seq ?_
                  refine W.kp [5, 8, 10, 14, 30, 31, 32, 36, 37, 242] ?_
                  refine AWp.region ?_
                  refine L.Y Y.mv ?_
                  refine L.Y Y.mv ?_
                  refine L.Y (Y.bd Tryd.underlying27 Y27 P27) ?_
                  refine L.M (M.al Y27) ?_
                  refine L.S (S.stb Y27) ?_
                  refine AList.nil ?_
                  refine AWp.seq ?_
                  refine AWp.seq ?_
                  refine AWp.region ?_
                  refine L.Y Y.asg ?_
                  refine AList.nil ?_
                  refine AWp.block ?_
                  refine AWp.loopI (fun kk e H => kk ≤ k60 ∧ ∃ (x30 : Int) (x31 : Int) (x32 : Int) (x36 : Int) (x37 : Int) (x39 : Int) (x465000 : Int) (x472000 : Int) (x472001 : Int) (x472002 : List Int) (x479000 : Int) (x479001 : Int) (x479002 : List Int) (x900003000 : Int) (x900003001 : Int) (x900003002 : List Int) (x521000 : Int) (x521001 : Int) (x521002 : List Int), e = [(5, .ptr 0 0), (8, .ptr 1 0), (10, .ptr 2 0), (14, .ptr 3 0), (30, .lit (.int .i64 x30)), (31, .lit (.int .i64 x31)), (32, .lit (.int .i64 x32)), (36, .lit (.int .i64 x36)), (37, .lit (.int .i64 x37)), (38, .ptr 4 0), (39, .lit (.int .i64 x39))] ∧ H = [.bx 30 [.lit (.int .i64 x465000), .row 1 x465001.length false (ints .i64 x465001)], .bx 27 [.lit (.int .i64 x472000), .lit (.int .i64 x472001), .own 5 x472002.length], .bx 27 [.lit (.int .i64 x479000), .lit (.int .i64 x479001), .own 6 x479002.length], .bx 27 [.lit (.int .i64 x900003000), .lit (.int .i64 x900003001), .own 7 x900003002.length], .bx 27 [.lit (.int .i64 x521000), .lit (.int .i64 x521001), .own 8 x521002.length], .sl 3 1 x472002.length false (ints .i64 x472002), .sl 3 1 x479002.length false (ints .i64 x479002), .sl 3 1 x900003002.length false (ints .i64 x900003002), .sl 3 1 x521002.length false (ints .i64 x521002)] ∧ laws_FnOrdersAsTables.l2 kk x30 x31 x32 x36 x37 x39 x521000 x521001 x521002 = some true) (k := k60)
                   ⟨_, _, ⟨Nat.le_refl _, _, _, _, _, _, _, _, _, _, _, _, _, _, _, _, _, _, _, _, rfl, rfl, h⟩, IsPart.at [(3, 1)] [0, 1, 2, 3, 7, 4, 5, 6, 8] base0 (H.c (H.c (H.c (H.c (H.c (H.c (H.c (H.c (H.c .nil))))))))) (E.c (E.c (E.c (E.c (E.c (E.c (E.c (E.c (E.c (E.c (E.c .nil)))))))))))⟩ ?_
                  clear h
                  rintro k63 e H ⟨hk64, x30, x31, x32, x36, x37, x39, x465000, x472000, x472001, x472002, x479000, x479001, x479002, x900003000, x900003001, x900003002, x521000, x521001, x521002, rfl, rfl, h⟩
                  cases k63 with
                  | zero => exact absurd h (by simp [laws_FnOrdersAsTables.l2])
                  | succ k63 =>
                  simp only [laws_FnOrdersAsTables.l2] at h
                  refine AWp.seq ?_
                  refine AWp.seq ?_
                  refine AWp.region ?_
                  refine L.Y Y.mv ?_
                  refine L.Y Y.mv ?_
                  refine L.Y Y.bin ?_
                  refine AList.nil ?_
                  refine W.cond (fun hb => ?_) (fun hb => ?_)
                  ·
                   have hb65 := hb
                   try simp only [hS, hE, ne_eq] at hb
                   first | rw [if_pos hb65] at h | rw [if_neg (Bool.eq_false_iff.1 hb65)] at h | rw [if_pos hb] at h | rw [if_neg hb] at h | (simp only [hb, hT, reduceIte] at h) | skip
                   repeat (first | (rw [iN] at h; obtain ⟨_, h⟩ := h) | (rw [iP] at h; obtain ⟨_, h⟩ := h) | (simp only [bS] at h))
                   refine AWp.skip ?_
                   refine AWp.seq ?_
                   refine AWp.block ?_
                   refine Dt.reg [] [12, 14] (.y 0 (.t 1 (.y 2 (.y 3 (.y 4 (.y 5 (.y 6 (.y 7 (.y 8 (.y 9 (.y 10 (.one 11 (.last 12 (.y 13 (.one 14 .done))))))))))))))) HM ?_
                   refine Dt.Y rfl wantN (Y.fa (off := 2) Tryd.underlying27 Y22) ?_
                   refine Dt.T rfl wantN (D.ld Tryd.underlying22) ?_
                   refine Dt.Y rfl wantN Y.mv ?_
                   refine Dt.Y rfl wantN Y.mv ?_
                   refine Dt.Y rfl wantN Y.mv ?_
                   refine Dt.Y rfl wantN Y.bin ?_
                   refine Dt.Y rfl wantN Y.bin ?_
                   refine Dt.Y rfl wantN Y.mv ?_
                   refine Dt.Y rfl wantN Y.bin ?_
                   refine Dt.Y rfl wantN Y.bin ?_
                   refine Dt.Y rfl wantN Y.bin ?_
                   refine Dt.O (g' := false) rfl wantN ?_
                   refine Ox.M (M.bs Tryd.underlying22 Y3) ?_
                   refine Dt.L rfl wantN ?_
                   refine Op.S (S.ap (nn' := false) Tryd.underlying22 Y3) ?_
                   refine Du.Y rfl wantN (Y.fa (off := 2) Tryd.underlying27 Y22) ?_
                   refine Du.L rfl wantN ?_
                   refine Op.S (S.stb Y22) ?_
                   refine Du.nil ?_
                   refine W.kp [5, 8, 10, 14, 30, 31, 32, 36, 37, 38, 39, 250] ?_
                   refine AWp.region ?_
                   refine L.Y Y.mv ?_
                   refine L.Y Y.bin ?_
                   refine L.Y Y.asg ?_
                   refine AList.nil ?_
                   exact ⟨k63, by omega, _, _, ⟨by omega, _, _, _, _, _, _, _, _, _, _, _, _, _, _, _, _, _, _, _, rfl, rfl, h⟩, IsPart.at [] [0, 1, 2, 3, 4, 5, 6, 7, 8] base0 (H.c (H.c (H.c (H.c (H.c (H.c (H.c (H.c (H.c .nil))))))))) (E.c (E.c (E.c (E.c (E.c (E.c (E.c (E.c (E.c (E.c (E.c .nil)))))))))))⟩
                  ·
                   have hb65 := hb
                   try simp only [hS, hE, ne_eq] at hb
                   first | rw [if_pos hb65] at h | rw [if_neg (Bool.eq_false_iff.1 hb65)] at h | rw [if_pos hb] at h | rw [if_neg hb] at h | (simp only [hb, hT, reduceIte] at h) | skip
                   refine AWp.exit ?_
                   refine AWp.seq ?_
                   refine AWp.region ?_
                   refine L.S (S.ldN Tryd.underlying27 Y27) ?_
                   replace h := Option.bind_eq_some_iff.1 h
                   obtain ⟨⟨t524, t525⟩, hc66, h⟩ := h
                   dsimp only at h
                   refine L.C (C.callE (l := true) [] Tryd.func40 (impl_IsBiorder.ac _ _ _ _ _ _ hc66) .nil ?_)
                   refine L.Y Y.mv ?_
                   refine L.Y Y.ex ?_
                   refine L.Y Y.ex ?_
                   refine L.Y Y.asg ?_
                   refine L.Y Y.asg ?_
                   refine AList.nil ?_
                   refine AWp.seq ?_
                   refine AWp.seq ?_
                   refine W.kp [5, 8, 10, 14, 30, 31, 32, 36, 37, 38, 39, 40, 41, 250] ?_
                   refine AWp.region ?_
                   refine L.Y Y.mv ?_
                   refine L.Y Y.nt ?_
                   refine AList.nil ?_
                   refine W.cond (fun hb => ?_) (fun hb => ?_)
                   ·
                    have hb67 := hb
                    try simp only [hS, hE, ne_eq] at hb
                    first | rw [if_pos hb67] at h | rw [if_neg (Bool.eq_false_iff.1 hb67)] at h | rw [if_pos hb] at h | rw [if_neg hb] at h | (simp only [hb, hT, reduceIte] at h) | skip
                    exfalso
                    revert h
                    exact fun h => by simp at h
                   ·
                    have hb67 := hb
                    try simp only [hS, hE, ne_eq] at hb
                    first | rw [if_pos hb67] at h | rw [if_neg (Bool.eq_false_iff.1 hb67)] at h | rw [if_pos hb] at h | rw [if_neg hb] at h | (simp only [hb, hT, reduceIte] at h) | skip
                    refine AWp.skip ?_
                    refine AWp.seq ?_
                    refine AWp.region ?_
                    refine L.Y Y.mv ?_
                    refine AList.nil ?_
                    refine W.cond (fun hb => ?_) (fun hb => ?_)
                    ·
                     have hb68 := hb
                     try simp only [hS, hE, ne_eq] at hb
                     first | rw [if_pos hb68] at h | rw [if_neg (Bool.eq_false_iff.1 hb68)] at h | rw [if_pos hb] at h | rw [if_neg hb] at h | (simp only [hb, hT, reduceIte] at h) | skip
                     refine AWp.region ?_
                     refine L.Y Y.mv ?_
                     refine L.Y Y.bin ?_
                     refine L.Y Y.asg ?_
                     refine AList.nil ?_
                     refine AWp.region ?_
                     refine L.Y Y.mv ?_
                     refine L.Y Y.bin ?_
                     refine L.Y Y.asg ?_
                     refine AList.nil ?_
                     exact ⟨k63, by omega, _, _, ⟨by omega, _, _, _, _, _, _, _, _, _, _, _, _, _, _, _, rfl, rfl, h⟩, IsPart.at [] [0, 1, 2, 3, 5, 6, 7] base0 (H.c (H.c (H.c (H.c (H.c (H.c (H.c .nil))))))) (E.c (E.c (E.c (E.c (E.c (E.c (E.c (E.c (E.c .nil)))))))))⟩
                    ·
                     have hb68 := hb
                     try simp only [hS, hE, ne_eq] at hb
                     first | rw [if_pos hb68] at h | rw [if_neg (Bool.eq_false_iff.1 hb68)] at h | rw [if_pos hb] at h | rw [if_neg hb] at h | (simp only [hb, hT, reduceIte] at h) | skip
                     refine AWp.skip ?_
                     refine AWp.region ?_
                     refine L.Y Y.mv ?_
                     refine L.Y Y.bin ?_
                     refine L.Y Y.asg ?_
                     refine AList.nil ?_
                     exact ⟨k63, by omega, _, _, ⟨by omega, _, _, _, _, _, _, _, _, _, _, _, _, _, _, _, rfl, rfl, h⟩, IsPart.at [] [0, 1, 2, 3, 5, 6, 7] base0 (H.c (H.c (H.c (H.c (H.c (H.c (H.c .nil))))))) (E.c (E.c (E.c (E.c (E.c (E.c (E.c (E.c (E.c .nil)))))))))⟩
                 ·
                  have hb62 := hb
                  try simp only [hS, hE, ne_eq] at hb
                  first | rw [if_pos hb62] at h | rw [if_neg (Bool.eq_false_iff.1 hb62)] at h | rw [if_pos hb] at h | rw [if_neg hb] at h | (simp only [hb, hT, reduceIte] at h) | skip
                  refine AWp.exit ?_
                  refine AWp.seq ?_
                  refine W.kp [5, 8, 10, 14, 30, 31, 32, 36, 37, 242] ?_
                  refine AWp.region ?_
                  refine L.Y Y.mv ?_
                  refine L.Y Y.mv ?_
                  refine L.Y Y.bin ?_
                  refine L.Y Y.asg ?_
                  refine AList.nil ?_
                  refine AWp.ret ?_
                  first | (exfalso; cases h; done) | exact ⟨.inr rfl, [(4, _)], _, ⟨rfl, rfl⟩, IsPart.at [] [] base0 .nil (E.c .nil (hs := Sub.litE (LV h)))⟩
                ·
                 have hb59 := hb
                 try simp only [hS, hE, ne_eq] at hb
                 first | rw [if_pos hb59] at h | rw [if_neg (Bool.eq_false_iff.1 hb59)] at h | rw [if_pos hb] at h | rw [if_neg hb] at h | (simp only [hb, hT, reduceIte] at h) | skip
                 refine AWp.skip ?_
                 refine AWp.seq ?_
                 refine W.kp [1, 5, 8, 10, 12, 13, 14, 15, 16, 17, 18, 19, 20, 21, 30, 31, 32, 33, 34, 35, 83, 131, 132, 229, 236] ?_
                 refine AWp.region ?_
                 refine L.Y Y.asg ?_
                 refine AList.nil ?_
                 refine AWp.ret ?_
                 first | (exfalso; cases h; done) | exact ⟨.inr rfl, [(4, _)], _, ⟨rfl, rfl⟩, IsPart.at [] [] base0 .nil (E.c .nil (hs := Sub.litE (LV h)))⟩
               ·
                have hb58 := hb
                try simp only [hS, hE, ne_eq] at hb
                first | rw [if_pos hb58] at h | rw [if_neg (Bool.eq_false_iff.1 hb58)] at h | rw [if_pos hb] at h | rw [if_neg hb] at h | (simp only [hb, hT, reduceIte] at h) | skip
                refine L.Gn hb58 ?_
                refine L.Gn hb58 ?_
                refine L.Gn hb58 ?_
                refine L.Gn hb58 ?_
                refine L.Y (Y.pk (c := false) hb58) ?_
                refine AList.nil ?_
                rcases k11 with _ | k11
                ·
                 exact absurd h (by simp [laws_FnOrdersAsTables.j6])
                simp only [laws_FnOrdersAsTables.j6] at h
                refine W.cond (fun hb => ?_) (fun hb => ?_)
                ·
                 first | exact Bool.false_ne_true ((Eq.symm (by assumption)).trans hb) | exact Bool.false_ne_true (hb.symm.trans (by assumption)) | exact DD hb
                have hb69 := hb
                try (first | rw [if_pos hb69] at h | rw [if_neg (Bool.eq_false_iff.1 hb69)] at h | rw [if_pos hb] at h | rw [if_neg hb] at h | (simp only [hb, hT, reduceIte] at h) | skip)
                refine AWp.skip ?_
                refine AWp.seq ?_
                refine W.kp [1, 5, 8, 10, 12, 13, 14, 15, 16, 17, 18, 19, 20, 21, 30, 31, 32, 33, 34, 35, 83, 131, 132, 229, 236] ?_
                refine AWp.region ?_
                refine L.Y Y.asg ?_
                refine AList.nil ?_
                refine AWp.ret ?_
                first | (exfalso; cases h; done) | exact ⟨.inr rfl, [(4, _)], _, ⟨rfl, rfl⟩, IsPart.at [] [] base0 .nil (E.c .nil (hs := Sub.litE (LV h)))⟩
     ·
      have hb10 := hb
      try simp only [hS, hE, ne_eq] at hb
      first | rw [if_pos hb10] at h | rw [if_neg (Bool.eq_false_iff.1 hb10)] at h | rw [if_pos hb] at h | rw [if_neg hb] at h | (simp only [hb, hT, reduceIte] at h) | skip
      refine AWp.skip ?_
      refine AWp.seq ?_
      refine W.kp [0, 1, 4, 5, 6, 7, 8, 9, 10, 11, 44, 73, 79] ?_
      refine AWp.region ?_
      refine L.Y Y.mv ?_
      rcases k with _ | k
      ·
       exact absurd h (by simp [laws_FnOrdersAsTables.j4])
      simp only [laws_FnOrdersAsTables.j4] at h
      replace h := Option.bind_eq_some_iff.1 h
      obtain ⟨⟨t514, t515⟩, hc70, h⟩ := h
      dsimp only at h
      refine L.C (C.callE (l := true) [] Tryd.func44 (spec_DrawCountBiorders.ac _ _ _ hc70) .nil ?_)
      refine L.Y Y.mv ?_
      refine L.Y Y.ex ?_
      refine L.Y Y.ex ?_
      refine L.Y Y.asg ?_
      refine L.Y Y.asg ?_
      refine AList.nil ?_
      refine AWp.seq ?_
      refine W.kp [0, 1, 4, 5, 6, 7, 8, 9, 10, 11, 30, 31, 44, 73, 79] ?_
      refine AWp.region ?_
      refine L.Y Y.mv ?_
      refine L.Y Y.mv ?_
      replace h := Option.bind_eq_some_iff.1 h
      obtain ⟨⟨t516, t517⟩, hc71, h⟩ := h
      dsimp only at h
      refine L.C (C.callE (l := true) [] Tryd.func45 (impl_CountBiorders.ac _ _ _ _ _ hc71) .nil ?_)
      refine L.Y Y.mv ?_
      refine L.Y Y.ex ?_
      refine L.Y Y.ex ?_
      refine L.Y Y.asg ?_
      refine L.Y Y.asg ?_
      refine AList.nil ?_
      refine AWp.seq ?_
      refine W.kp [0, 1, 4, 5, 6, 7, 8, 9, 10, 11, 30, 31, 32, 33, 44, 73, 79] ?_
      refine AWp.region ?_
      refine L.Y Y.mv ?_
      refine L.Y Y.mv ?_
      replace h := Option.bind_eq_some_iff.1 h
      obtain ⟨⟨t518, t519⟩, hc72, h⟩ := h
      dsimp only at h
      refine L.C (C.callE (l := true) [] Tryd.func46 (spec_CountBiorders.ac _ _ _ _ _ hc72) .nil ?_)
      refine L.Y Y.mv ?_
      refine L.Y Y.ex ?_
      refine L.Y Y.ex ?_
      refine L.Y Y.asg ?_
      refine L.Y Y.asg ?_
      refine AList.nil ?_
      refine AWp.seq ?_
      refine AWp.seq ?_
      refine W.kp [0, 1, 4, 5, 6, 7, 8, 9, 10, 11, 30, 31, 32, 33, 34, 35, 44, 73, 79] ?_
      refine AWp.region ?_
      refine L.Y Y.mv ?_
      refine L.Y Y.mv ?_
      refine L.Y (Y.bb Tryd.underlying4) ?_
      refine L.Y Y.mv ?_
      refine L.Gc (fun hb => ?_) (fun hb => ?_)
      ·
       have hb73 := hb
       try simp only [hS, hE, ne_eq] at hb
       first | rw [if_pos hb73] at h | rw [if_neg (Bool.eq_false_iff.1 hb73)] at h | rw [if_pos hb] at h | rw [if_neg hb] at h | (simp only [hb, hT, reduceIte] at h) | skip
       exfalso
       revert h
       exact fun h => by cases k <;> simp [laws_FnOrdersAsTables.j5] at h
      ·
       have hb73 := hb
       try simp only [hS, hE, ne_eq] at hb
       first | rw [if_pos hb73] at h | rw [if_neg (Bool.eq_false_iff.1 hb73)] at h | rw [if_pos hb] at h | rw [if_neg hb] at h | (simp only [hb, hT, reduceIte] at h) | skip
       refine L.Gy hb73 Y.mv ?_
       refine L.Gy hb73 Y.mv ?_
       refine L.Gy hb73 Y.bin ?_
       refine L.Y (Y.pk (c := false) hb73) ?_
       refine AList.nil ?_
       rcases k with _ | k
       ·
        exact absurd h (by simp [laws_FnOrdersAsTables.j5])
       simp only [laws_FnOrdersAsTables.j5] at h
       refine W.cond (fun hb => ?_) (fun hb => ?_)
       ·
        have hb74 := hb
        try simp only [hS, hE, ne_eq] at hb
        first | rw [if_pos hb74] at h | rw [if_neg (Bool.eq_false_iff.1 hb74)] at h | rw [if_pos hb] at h | rw [if_neg hb] at h | (simp only [hb, hT, reduceIte] at h) | skip
        exfalso
        revert h
        exact fun h => by simp at h
       ·
        have hb74 := hb
        try simp only [hS, hE, ne_eq] at hb
        first | rw [if_pos hb74] at h | rw [if_neg (Bool.eq_false_iff.1 hb74)] at h | rw [if_pos hb] at h | rw [if_neg hb] at h | (simp only [hb, hT, reduceIte] at h) | skip
        refine AWp.skip ?_
        refine AWp.seq ?_
        refine AWp.seq ?_
        refine W.kp [0, 1, 4, 5, 6, 7, 8, 9, 10, 11, 30, 31, 32, 33, 34, 35, 44, 73, 79, 229] ?_
        refine AWp.region ?_
        refine L.Y Y.mv ?_
        refine L.Y Y.mv ?_
        refine L.Gc (fun hb => ?_) (fun hb => ?_)
        ·
         have hb75 := hb
         try simp only [hS, hE, ne_eq] at hb
         first | rw [if_pos hb75] at h | rw [if_neg (Bool.eq_false_iff.1 hb75)] at h | rw [if_pos hb] at h | rw [if_neg hb] at h | (simp only [hb, hT, reduceIte] at h) | skip
         refine L.Gy hb75 Y.mv ?_
         refine L.Gy hb75 Y.mv ?_
         refine L.Gy hb75 Y.bin ?_
         refine L.Gy hb75 Y.bin ?_
         refine L.Y (Y.pk (c := true) hb75) ?_
         refine AList.nil ?_
         rcases k with _ | k
         ·
          exact absurd h (by simp [laws_FnOrdersAsTables.j6])
         simp only [laws_FnOrdersAsTables.j6] at h
         refine W.cond (fun hb => ?_) (fun hb => ?_)
         ·
          have hb76 := hb
          try simp only [hS, hE, ne_eq] at hb
          first | rw [if_pos hb76] at h | rw [if_neg (Bool.eq_false_iff.1 hb76)] at h | rw [if_pos hb] at h | rw [if_neg hb] at h | (simp only [hb, hT, reduceIte] at h) | skip
          refine AWp.seq ?_
          refine W.kp [0, 1, 4, 5, 6, 7, 8, 9, 10, 11, 30, 31, 32, 33, 34, 35, 44, 73, 79, 229, 236] ?_
          refine AWp.region ?_
          refine L.Y Y.asg ?_
          refine AList.nil ?_
          refine AWp.seq ?_
          refine AWp.seq ?_
          refine AWp.region ?_
          refine L.Y Y.asg ?_
          refine AList.nil ?_
          refine AWp.block ?_
          refine AWp.loopI (fun kk e H => kk ≤ k ∧ ∃ (x30 : Int) (x31 : Int) (x32 : Int) (x36 : Int) (x37 : Int) (x465000 : Int) (x465001 : List Int) (x472000 : Int) (x472001 : Int) (x472002 : List Int) (x479000 : Int) (x479001 : Int) (x479002 : List Int), e = [(5, .ptr 0 0), (8, .ptr 1 0), (10, .ptr 2 0), (30, .lit (.int .i64 x30)), (31, .lit (.int .i64 x31)), (32, .lit (.int .i64 x32)), (36, .lit (.int .i64 x36)), (37, .lit (.int .i64 x37))] ∧ H = [.bx 30 [.lit (.int .i64 x465000), .row 1 x465001.length false (ints .i64 x465001)], .bx 27 [.lit (.int .i64 x472000), .lit (.int .i64 x472001), .own 3 x472002.length], .bx 27 [.lit (.int .i64 x479000), .lit (.int .i64 x479001), .own 4 x479002.length], .sl 3 1 x472002.length false (ints .i64 x472002), .sl 3 1 x479002.length false (ints .i64 x479002)] ∧ laws_FnOrdersAsTables.l1 kk x30 x31 x32 x36 x37 = some true) (k := k)
           ⟨_, _, ⟨Nat.le_refl _, _, _, _, _, _, _, _, _, _, _, _, _, _, rfl, rfl, h⟩, IsPart.at [] [2, 4, 6, 3, 5] base0 (H.c (H.c (H.c (H.c (H.c .nil))))) (E.c (E.c (E.c (E.c (E.c (E.c (E.c (E.c .nil))))))))⟩ ?_
          clear h
          rintro k77 e H ⟨hk78, x30, x31, x32, x36, x37, x465000, x465001, x472000, x472001, x472002, x479000, x479001, x479002, rfl, rfl, h⟩
          cases k77 with
          | zero => exact absurd h (by simp [laws_FnOrdersAsTables.l1])
          | succ k77 =>
          simp only [laws_FnOrdersAsTables.l1] at h
          repeat (first | (rw [iN] at h; obtain ⟨_, h⟩ := h) | (rw [iP] at h; obtain ⟨_, h⟩ := h) | (simp only [bS] at h))
          refine AWp.seq ?_
          refine AWp.seq ?_
          refine AWp.region ?_
          refine L.Y Y.mv ?_
          refine L.Y Y.mv ?_
          refine L.Y Y.mv ?_
          refine L.Y Y.bin ?_
          refine L.Y Y.bin ?_
          refine L.Y Y.bin ?_
          refine AList.nil ?_
          refine W.cond (fun hb => ?_) (fun hb => ?_)
          ·
           have hb79 := hb
           try simp only [hS, hE, ne_eq] at hb
           first | rw [if_pos hb79] at h | rw [if_neg (Bool.eq_false_iff.1 hb79)] at h | rw [if_pos hb] at h | rw [if_neg hb] at h | (simp only [hb, hT, reduceIte] at h) | skip
           refine AWp.skip ?_
           refine AWp.seq ?_
           refine AWp.block ?_
           refine AWp.seq ?_
           refine W.kp [5, 8, 10, 30, 31, 32, 36, 37, 242] ?_
           refine AWp.region ?_
           refine L.Y Y.mv ?_
           refine L.Y Y.mv ?_
           refine L.Y (Y.bd Tryd.underlying27 Y27 P27) ?_
           refine L.M (M.al Y27) ?_
           refine L.S (S.stb Y27) ?_
           refine AList.nil ?_
           refine AWp.seq ?_
           refine AWp.seq ?_
           refine AWp.region ?_
           refine L.Y Y.asg ?_
           refine AList.nil ?_
           refine AWp.block ?_
           refine AWp.loopI (fun kk e H => kk ≤ k77 ∧ ∃ (x30 : Int) (x31 : Int) (x32 : Int) (x36 : Int) (x37 : Int) (x39 : Int) (x465000 : Int) (x472000 : Int) (x472001 : Int) (x472002 : List Int) (x479000 : Int) (x479001 : Int) (x479002 : List Int) (x521000 : Int) (x521001 : Int) (x521002 : List Int), e = [(5, .ptr 0 0), (8, .ptr 1 0), (10, .ptr 2 0), (30, .lit (.int .i64 x30)), (31, .lit (.int .i64 x31)), (32, .lit (.int .i64 x32)), (36, .lit (.int .i64 x36)), (37, .lit (.int .i64 x37)), (38, .ptr 3 0), (39, .lit (.int .i64 x39))] ∧ H = [.bx 30 [.lit (.int .i64 x465000), .row 1 x465001.length false (ints .i64 x465001)], .bx 27 [.lit (.int .i64 x472000), .lit (.int .i64 x472001), .own 4 x472002.length], .bx 27 [.lit (.int .i64 x479000), .lit (.int .i64 x479001), .own 5 x479002.length], .bx 27 [.lit (.int .i64 x521000), .lit (.int .i64 x521001), .own 6 x521002.length], .sl 3 1 x472002.length false (ints .i64 x472002), .sl 3 1 x479002.length false (ints .i64 x479002), .sl 3 1 x521002.length false (ints .i64 x521002)] ∧ laws_FnOrdersAsTables.l2 kk x30 x31 x32 x36 x37 x39 x521000 x521001 x521002 = some true) (k := k77)
            ⟨_, _, ⟨Nat.le_refl _, _, _, _, _, _, _, _, _, _, _, _, _, _, _, _, _, rfl, rfl, h⟩, IsPart.at [(3, 1)] [0, 1, 2, 5, 3, 4, 6] base0 (H.c (H.c (H.c (H.c (H.c (H.c (H.c .nil))))))) (E.c (E.c (E.c (E.c (E.c (E.c (E.c (E.c (E.c (E.c .nil))))))))))⟩ ?_
           clear h
           rintro k80 e H ⟨hk81, x30, x31, x32, x36, x37, x39, x465000, x472000, x472001, x472002, x479000, x479001, x479002, x521000, x521001, x521002, rfl, rfl, h⟩
           cases k80 with
           | zero => exact absurd h (by simp [laws_FnOrdersAsTables.l2])
           | succ k80 =>
           simp only [laws_FnOrdersAsTables.l2] at h
           refine AWp.seq ?_
           refine AWp.seq ?_
           refine AWp.region ?_
           refine L.Y Y.mv ?_
           refine L.Y Y.mv ?_
           refine L.Y Y.bin ?_
           refine AList.nil ?_
           refine W.cond (fun hb => ?_) (fun hb => ?_)
           ·
            have hb82 := hb
            try simp only [hS, hE, ne_eq] at hb
            first | rw [if_pos hb82] at h | rw [if_neg (Bool.eq_false_iff.1 hb82)] at h | rw [if_pos hb] at h | rw [if_neg hb] at h | (simp only [hb, hT, reduceIte] at h) | skip
            repeat (first | (rw [iN] at h; obtain ⟨_, h⟩ := h) | (rw [iP] at h; obtain ⟨_, h⟩ := h) | (simp only [bS] at h))
            refine AWp.skip ?_
            refine AWp.seq ?_
            refine AWp.block ?_
            refine Dt.reg [] [12, 14] (.y 0 (.t 1 (.y 2 (.y 3 (.y 4 (.y 5 (.y 6 (.y 7 (.y 8 (.y 9 (.y 10 (.one 11 (.last 12 (.y 13 (.one 14 .done))))))))))))))) HM ?_
            refine Dt.Y rfl wantN (Y.fa (off := 2) Tryd.underlying27 Y22) ?_
            refine Dt.T rfl wantN (D.ld Tryd.underlying22) ?_
            refine Dt.Y rfl wantN Y.mv ?_
            refine Dt.Y rfl wantN Y.mv ?_
            refine Dt.Y rfl wantN Y.mv ?_
            refine Dt.Y rfl wantN Y.bin ?_
            refine Dt.Y rfl wantN Y.bin ?_
            refine Dt.Y rfl wantN Y.mv ?_
            refine Dt.Y rfl wantN Y.bin ?_
            refine Dt.Y rfl wantN Y.bin ?_
            refine Dt.Y rfl wantN Y.bin ?_
            refine Dt.O (g' := false) rfl wantN ?_
            refine Ox.M (M.bs Tryd.underlying22 Y3) ?_
            refine Dt.L rfl wantN ?_
            refine Op.S (S.ap (nn' := false) Tryd.underlying22 Y3) ?_
            refine Du.Y rfl wantN (Y.fa (off := 2) Tryd.underlying27 Y22) ?_
            refine Du.L rfl wantN ?_
            refine Op.S (S.stb Y22) ?_
            refine Du.nil ?_
            refine W.kp [5, 8, 10, 30, 31, 32, 36, 37, 38, 39, 250] ?_
            refine AWp.region ?_
            refine L.Y Y.mv ?_
            refine L.Y Y.bin ?_
            refine L.Y Y.asg ?_
            refine AList.nil ?_
            exact ⟨k80, by omega, _, _, ⟨by omega, _, _, _, _, _, _, _, _, _, _, _, _, _, _, _, _, rfl, rfl, h⟩, IsPart.at [] [0, 1, 2, 3, 4, 5, 6] base0 (H.c (H.c (H.c (H.c (H.c (H.c (H.c .nil))))))) (E.c (E.c (E.c (E.c (E.c (E.c (E.c (E.c (E.c (E.c .nil))))))))))⟩
           ·
            have hb82 := hb
            try simp only [hS, hE, ne_eq] at hb
            first | rw [if_pos hb82] at h | rw [if_neg (Bool.eq_false_iff.1 hb82)] at h | rw [if_pos hb] at h | rw [if_neg hb] at h | (simp only [hb, hT, reduceIte] at h) | skip
            refine AWp.exit ?_
            refine AWp.seq ?_
            refine AWp.region ?_
            refine L.S (S.ldN Tryd.underlying27 Y27) ?_
            replace h := Option.bind_eq_some_iff.1 h
            obtain ⟨⟨t524, t525⟩, hc83, h⟩ := h
            dsimp only at h
            refine L.C (C.callE (l := true) [] Tryd.func40 (impl_IsBiorder.ac _ _ _ _ _ _ hc83) .nil ?_)
            refine L.Y Y.mv ?_
            refine L.Y Y.ex ?_
            refine L.Y Y.ex ?_
            refine L.Y Y.asg ?_
            refine L.Y Y.asg ?_
            refine AList.nil ?_
            refine AWp.seq ?_
            refine AWp.seq ?_
            refine W.kp [5, 8, 10, 30, 31, 32, 36, 37, 38, 39, 40, 41, 250] ?_
            refine AWp.region ?_
            refine L.Y Y.mv ?_
            refine L.Y Y.nt ?_
            refine AList.nil ?_
            refine W.cond (fun hb => ?_) (fun hb => ?_)
            ·
             have hb84 := hb
             try simp only [hS, hE, ne_eq] at hb
             first | rw [if_pos hb84] at h | rw [if_neg (Bool.eq_false_iff.1 hb84)] at h | rw [if_pos hb] at h | rw [if_neg hb] at h | (simp only [hb, hT, reduceIte] at h) | skip
             exfalso
             revert h
             exact fun h => by simp at h
            ·
             have hb84 := hb
             try simp only [hS, hE, ne_eq] at hb
             first | rw [if_pos hb84] at h | rw [if_neg (Bool.eq_false_iff.1 hb84)] at h | rw [if_pos hb] at h | rw [if_neg hb] at h | (simp only [hb, hT, reduceIte] at h) | skip
             refine AWp.skip ?_
             refine AWp.seq ?_
             refine AWp.region ?_
             refine L.Y Y.mv ?_
             refine AList.nil ?_
             refine W.cond (fun hb => ?_) (fun hb => ?_)
             ·
              have hb85 := hb
              try simp only [hS, hE, ne_eq] at hb
              first | rw [if_pos hb85] at h | rw [if_neg (Bool.eq_false_iff.1 hb85)] at h | rw [if_pos hb] at h | rw [if_neg hb] at h | (simp only [hb, hT, reduceIte] at h) | skip
              refine AWp.region ?_
              refine L.Y Y.mv ?_
              refine L.Y Y.bin ?_
              refine L.Y Y.asg ?_
              refine AList.nil ?_
              refine AWp.region ?_
              refine L.Y Y.mv ?_
              refine L.Y Y.bin ?_
              refine L.Y Y.asg ?_
              refine AList.nil ?_
              exact ⟨k80, by omega, _, _, ⟨by omega, _, _, _, _, _, _, _, _, _, _, _, _, _, rfl, rfl, h⟩, IsPart.at [] [0, 1, 2, 4, 5] base0 (H.c (H.c (H.c (H.c (H.c .nil))))) (E.c (E.c (E.c (E.c (E.c (E.c (E.c (E.c .nil))))))))⟩
             ·
              have hb85 := hb
              try simp only [hS, hE, ne_eq] at hb
              first | rw [if_pos hb85] at h | rw [if_neg (Bool.eq_false_iff.1 hb85)] at h | rw [if_pos hb] at h | rw [if_neg hb] at h | (simp only [hb, hT, reduceIte] at h) | skip
              refine AWp.skip ?_
              refine AWp.region ?_
              refine L.Y Y.mv ?_
              refine L.Y Y.bin ?_
              refine L.Y Y.asg ?_
              refine AList.nil ?_
              exact ⟨k80, by omega, _, _, ⟨by omega, _, _, _, _, _, _, _, _, _, _, _, _, _, rfl, rfl, h⟩, IsPart.at [] [0, 1, 2, 4, 5] base0 (H.c (H.c (H.c (H.c (H.c .nil))))) (E.c (E.c (E.c (E.c (E.c (E.c (E.c (E.c .nil))))))))⟩
          ·
           have hb79 := hb
           try simp only [hS, hE, ne_eq] at hb
           first | rw [if_pos hb79] at h | rw [if_neg (Bool.eq_false_iff.1 hb79)] at h | rw [if_pos hb] at h | rw [if_neg hb] at h | (simp only [hb, hT, reduceIte] at h) | skip
           refine AWp.exit ?_
           refine AWp.seq ?_
           refine W.kp [5, 8, 10, 30, 31, 32, 36, 37, 242] ?_
           refine AWp.region ?_
           refine L.Y Y.mv ?_
           refine L.Y Y.mv ?_
           refine L.Y Y.bin ?_
           refine L.Y Y.asg ?_
           refine AList.nil ?_
           refine AWp.ret ?_
           first | (exfalso; cases h; done) | exact ⟨.inr rfl, [(4, _)], _, ⟨rfl, rfl⟩, IsPart.at [] [] base0 .nil (E.c .nil (hs := Sub.litE (LV h)))⟩
         ·
          have hb76 := hb
          try simp only [hS, hE, ne_eq] at hb
          first | rw [if_pos hb76] at h | rw [if_neg (Bool.eq_false_iff.1 hb76)] at h | rw [if_pos hb] at h | rw [if_neg hb] at h | (simp only [hb, hT, reduceIte] at h) | skip
          refine AWp.skip ?_
          refine AWp.seq ?_
          refine W.kp [0, 1, 4, 5, 6, 7, 8, 9, 10, 11, 30, 31, 32, 33, 34, 35, 44, 73, 79, 229, 236] ?_
          refine AWp.region ?_
          refine L.Y Y.asg ?_
          refine AList.nil ?_
          refine AWp.ret ?_
          first | (exfalso; cases h; done) | exact ⟨.inr rfl, [(4, _)], _, ⟨rfl, rfl⟩, IsPart.at [] [] base0 .nil (E.c .nil (hs := Sub.litE (LV h)))⟩
        ·
         have hb75 := hb
         try simp only [hS, hE, ne_eq] at hb
         first | rw [if_pos hb75] at h | rw [if_neg (Bool.eq_false_iff.1 hb75)] at h | rw [if_pos hb] at h | rw [if_neg hb] at h | (simp only [hb, hT, reduceIte] at h) | skip
         refine L.Gn hb75 ?_
         refine L.Gn hb75 ?_
         refine L.Gn hb75 ?_
         refine L.Gn hb75 ?_
         refine L.Y (Y.pk (c := false) hb75) ?_
         refine AList.nil ?_
         rcases k with _ | k
         ·
          exact absurd h (by simp [laws_FnOrdersAsTables.j6])
         simp only [laws_FnOrdersAsTables.j6] at h
         refine W.cond (fun hb => ?_) (fun hb => ?_)
         ·
          first | exact Bool.false_ne_true ((Eq.symm (by assumption)).trans hb) | exact Bool.false_ne_true (hb.symm.trans (by assumption)) | exact DD hb
         have hb86 := hb
         try (first | rw [if_pos hb86] at h | rw [if_neg (Bool.eq_false_iff.1 hb86)] at h | rw [if_pos hb] at h | rw [if_neg hb] at h | (simp only [hb, hT, reduceIte] at h) | skip)
         refine AWp.skip ?_
         refine AWp.seq ?_
         refine W.kp [0, 1, 4, 5, 6, 7, 8, 9, 10, 11, 30, 31, 32, 33, 34, 35, 44, 73, 79, 229, 236] ?_
         refine AWp.region ?_
         refine L.Y Y.asg ?_
         refine AList.nil ?_
         refine AWp.ret ?_
         first | (exfalso; cases h; done) | exact ⟨.inr rfl, [(4, _)], _, ⟨rfl, rfl⟩, IsPart.at [] [] base0 .nil (E.c .nil (hs := Sub.litE (LV h)))⟩
    ·
     have hb9 := hb
     try simp only [hS, hE, ne_eq] at hb
     first | rw [if_pos hb9] at h | rw [if_neg (Bool.eq_false_iff.1 hb9)] at h | rw [if_pos hb] at h | rw [if_neg hb] at h | (simp only [hb, hT, reduceIte] at h) | skip
     refine L.Gn hb9 ?_
     refine L.Gn hb9 ?_
     refine L.Gn hb9 ?_
     refine L.Y (Y.pk (c := false) hb9) ?_
     refine AList.nil ?_
     rcases k with _ | k
     ·
      exact absurd h (by simp [laws_FnOrdersAsTables.j1])
     simp only [laws_FnOrdersAsTables.j1] at h
     refine W.cond (fun hb => ?_) (fun hb => ?_)
     ·
      first | exact Bool.false_ne_true ((Eq.symm (by assumption)).trans hb) | exact Bool.false_ne_true (hb.symm.trans (by assumption)) | exact DD hb
     have hb87 := hb
     try (first | rw [if_pos hb87] at h | rw [if_neg (Bool.eq_false_iff.1 hb87)] at h | rw [if_pos hb] at h | rw [if_neg hb] at h | (simp only [hb, hT, reduceIte] at h) | skip)
     refine AWp.skip ?_
     refine AWp.seq ?_
     refine W.kp [0, 1, 4, 5, 6, 7, 8, 9, 10, 11, 44, 73, 79] ?_
     refine AWp.region ?_
     refine L.Y Y.mv ?_
     rcases k with _ | k
     ·
      exact absurd h (by simp [laws_FnOrdersAsTables.j4])
     simp only [laws_FnOrdersAsTables.j4] at h
     replace h := Option.bind_eq_some_iff.1 h
     obtain ⟨⟨t514, t515⟩, hc88, h⟩ := h
     dsimp only at h
     refine L.C (C.callE (l := true) [] Tryd.func44 (spec_DrawCountBiorders.ac _ _ _ hc88) .nil ?_)
     refine L.Y Y.mv ?_
     refine L.Y Y.ex ?_
     refine L.Y Y.ex ?_
     refine L.Y Y.asg ?_
     refine L.Y Y.asg ?_
     refine AList.nil ?_
     refine AWp.seq ?_
     refine W.kp [0, 1, 4, 5, 6, 7, 8, 9, 10, 11, 30, 31, 44, 73, 79] ?_
     refine AWp.region ?_
     refine L.Y Y.mv ?_
     refine L.Y Y.mv ?_
     replace h := Option.bind_eq_some_iff.1 h
     obtain ⟨⟨t516, t517⟩, hc89, h⟩ := h
     dsimp only at h
     refine L.C (C.callE (l := true) [] Tryd.func45 (impl_CountBiorders.ac _ _ _ _ _ hc89) .nil ?_)
     refine L.Y Y.mv ?_
     refine L.Y Y.ex ?_
     refine L.Y Y.ex ?_
     refine L.Y Y.asg ?_
     refine L.Y Y.asg ?_
     refine AList.nil ?_
     refine AWp.seq ?_
     refine W.kp [0, 1, 4, 5, 6, 7, 8, 9, 10, 11, 30, 31, 32, 33, 44, 73, 79] ?_
     refine AWp.region ?_
     refine L.Y Y.mv ?_
     refine L.Y Y.mv ?_
     replace h := Option.bind_eq_some_iff.1 h
     obtain ⟨⟨t518, t519⟩, hc90, h⟩ := h
     dsimp only at h
     refine L.C (C.callE (l := true) [] Tryd.func46 (spec_CountBiorders.ac _ _ _ _ _ hc90) .nil ?_)
     refine L.Y Y.mv ?_
     refine L.Y Y.ex ?_
     refine L.Y Y.ex ?_
     refine L.Y Y.asg ?_
     refine L.Y Y.asg ?_
     refine AList.nil ?_
     refine AWp.seq ?_
     refine AWp.seq ?_
     refine W.kp [0, 1, 4, 5, 6, 7, 8, 9, 10, 11, 30, 31, 32, 33, 34, 35, 44, 73, 79] ?_
     refine AWp.region ?_
     refine L.Y Y.mv ?_
     refine L.Y Y.mv ?_
     refine L.Y (Y.bb Tryd.underlying4) ?_
     refine L.Y Y.mv ?_
     refine L.Gc (fun hb => ?_) (fun hb => ?_)
     ·
      have hb91 := hb
      try simp only [hS, hE, ne_eq] at hb
      first | rw [if_pos hb91] at h | rw [if_neg (Bool.eq_false_iff.1 hb91)] at h | rw [if_pos hb] at h | rw [if_neg hb] at h | (simp only [hb, hT, reduceIte] at h) | skip
      exfalso
      revert h
      exact fun h => by cases k <;> simp [laws_FnOrdersAsTables.j5] at h
     ·
      have hb91 := hb
      try simp only [hS, hE, ne_eq] at hb
      first | rw [if_pos hb91] at h | rw [if_neg (Bool.eq_false_iff.1 hb91)] at h | rw [if_pos hb] at h | rw [if_neg hb] at h | (simp only [hb, hT, reduceIte] at h) | skip
      refine L.Gy hb91 Y.mv ?_
      refine L.Gy hb91 Y.mv ?_
      refine L.Gy hb91 Y.bin ?_
      refine L.Y (Y.pk (c := false) hb91) ?_
      refine AList.nil ?_
      rcases k with _ | k
      ·
       exact absurd h (by simp [laws_FnOrdersAsTables.j5])
      simp only [laws_FnOrdersAsTables.j5] at h
      refine W.cond (fun hb => ?_) (fun hb => ?_)
      ·
       have hb92 := hb
       try simp only [hS, hE, ne_eq] at hb
       first | rw [if_pos hb92] at h | rw [if_neg (Bool.eq_false_iff.1 hb92)] at h | rw [if_pos hb] at h | rw [if_neg hb] at h | (simp only [hb, hT, reduceIte] at h) | skip
       exfalso
       revert h
       exact fun h => by simp at h
      ·
       have hb92 := hb
       try simp only [hS, hE, ne_eq] at hb
       first | rw [if_pos hb92] at h | rw [if_neg (Bool.eq_false_iff.1 hb92)] at h | rw [if_pos hb] at h | rw [if_neg hb] at h | (simp only [hb, hT, reduceIte] at h) | skip
       refine AWp.skip ?_
       refine AWp.seq ?_
       refine AWp.seq ?_
       refine W.kp [0, 1, 4, 5, 6, 7, 8, 9, 10, 11, 30, 31, 32, 33, 34, 35, 44, 73, 79, 229] ?_
       refine AWp.region ?_
       refine L.Y Y.mv ?_
       refine L.Y Y.mv ?_
       refine L.Gc (fun hb => ?_) (fun hb => ?_)
       ·
        have hb93 := hb
        try simp only [hS, hE, ne_eq] at hb
        first | rw [if_pos hb93] at h | rw [if_neg (Bool.eq_false_iff.1 hb93)] at h | rw [if_pos hb] at h | rw [if_neg hb] at h | (simp only [hb, hT, reduceIte] at h) | skip
        refine L.Gy hb93 Y.mv ?_
        refine L.Gy hb93 Y.mv ?_
        refine L.Gy hb93 Y.bin ?_
        refine L.Gy hb93 Y.bin ?_
        refine L.Y (Y.pk (c := true) hb93) ?_
        refine AList.nil ?_
        rcases k with _ | k
        ·
         exact absurd h (by simp [laws_FnOrdersAsTables.j6])
        simp only [laws_FnOrdersAsTables.j6] at h
        refine W.cond (fun hb => ?_) (fun hb => ?_)
        ·
         have hb94 := hb
         try simp only [hS, hE, ne_eq] at hb
         first | rw [if_pos hb94] at h | rw [if_neg (Bool.eq_false_iff.1 hb94)] at h | rw [if_pos hb] at h | rw [if_neg hb] at h | (simp only [hb, hT, reduceIte] at h) | skip
         refine AWp.seq ?_
         refine W.kp [0, 1, 4, 5, 6, 7, 8, 9, 10, 11, 30, 31, 32, 33, 34, 35, 44, 73, 79, 229, 236] ?_
         refine AWp.region ?_
         refine L.Y Y.asg ?_
         refine AList.nil ?_
         refine AWp.seq ?_
         refine AWp.seq ?_
         refine AWp.region ?_
         refine L.Y Y.asg ?_
         refine AList.nil ?_
         refine AWp.block ?_
         refine AWp.loopI (fun kk e H => kk ≤ k ∧ ∃ (x30 : Int) (x31 : Int) (x32 : Int) (x36 : Int) (x37 : Int) (x465000 : Int) (x465001 : List Int) (x472000 : Int) (x472001 : Int) (x472002 : List Int) (x479000 : Int) (x479001 : Int) (x479002 : List Int), e = [(5, .ptr 0 0), (8, .ptr 1 0), (10, .ptr 2 0), (30, .lit (.int .i64 x30)), (31, .lit (.int .i64 x31)), (32, .lit (.int .i64 x32)), (36, .lit (.int .i64 x36)), (37, .lit (.int .i64 x37))] ∧ H = [.bx 30 [.lit (.int .i64 x465000), .row 1 x465001.length false (ints .i64 x465001)], .bx 27 [.lit (.int .i64 x472000), .lit (.int .i64 x472001), .own 3 x472002.length], .bx 27 [.lit (.int .i64 x479000), .lit (.int .i64 x479001), .own 4 x479002.length], .sl 3 1 x472002.length false (ints .i64 x472002), .sl 3 1 x479002.length false (ints .i64 x479002)] ∧ laws_FnOrdersAsTables.l1 kk x30 x31 x32 x36 x37 = some true) (k := k)
          ⟨_, _, ⟨Nat.le_refl _, _, _, _, _, _, _, _, _, _, _, _, _, _, rfl, rfl, h⟩, IsPart.at [] [2, 4, 6, 3, 5] base0 (H.c (H.c (H.c (H.c (H.c .nil))))) (E.c (E.c (E.c (E.c (E.c (E.c (E.c (E.c .nil))))))))⟩ ?_
         clear h
         rintro k95 e H ⟨hk96, x30, x31, x32, x36, x37, x465000, x465001, x472000, x472001, x472002, x479000, x479001, x479002, rfl, rfl, h⟩
         cases k95 with
         | zero => exact absurd h (by simp [laws_FnOrdersAsTables.l1])
         | succ k95 =>
         simp only [laws_FnOrdersAsTables.l1] at h
         repeat (first | (rw [iN] at h; obtain ⟨_, h⟩ := h) | (rw [iP] at h; obtain ⟨_, h⟩ := h) | (simp only [bS] at h))
         refine AWp.seq ?_
         refine AWp.seq ?_
         refine AWp.region ?_
         refine L.Y Y.mv ?_
         refine L.Y Y.mv ?_
         refine L.Y Y.mv ?_
         refine L.Y Y.bin ?_
         refine L.Y Y.bin ?_
         refine L.Y Y.bin ?_
         refine AList.nil ?_
         refine W.cond (fun hb => ?_) (fun hb => ?_)
         ·
          have hb97 := hb
          try simp only [hS, hE, ne_eq] at hb
          first | rw [if_pos hb97] at h | rw [if_neg (Bool.eq_false_iff.1 hb97)] at h | rw [if_pos hb] at h | rw [if_neg hb] at h | (simp only [hb, hT, reduceIte] at h) | skip
          refine AWp.skip ?_
          refine AWp.seq ?_
          refine AWp.block ?_
          refine AWp.seq ?_
          refine W.kp [5, 8, 10, 30, 31, 32, 36, 37, 242] ?_
          refine AWp.region ?_
          refine L.Y Y.mv ?_
          refine L.Y Y.mv ?_
          refine L.Y (Y.bd Tryd.underlying27 Y27 P27) ?_
          refine L.M (M.al Y27) ?_
          refine L.S (S.stb Y27) ?_
          refine AList.nil ?_
          refine AWp.seq ?_
          refine AWp.seq ?_
          refine AWp.region ?_
          refine L.Y Y.asg ?_
          refine AList.nil ?_
          refine AWp.block ?_
          refine AWp.loopI (fun kk e H => kk ≤ k95 ∧ ∃ (x30 : Int) (x31 : Int) (x32 : Int) (x36 : Int) (x37 : Int) (x39 : Int) (x465000 : Int) (x472000 : Int) (x472001 : Int) (x472002 : List Int) (x479000 : Int) (x479001 : Int) (x479002 : List Int) (x521000 : Int) (x521001 : Int) (x521002 : List Int), e = [(5, .ptr 0 0), (8, .ptr 1 0), (10, .ptr 2 0), (30, .lit (.int .i64 x30)), (31, .lit (.int .i64 x31)), (32, .lit (.int .i64 x32)), (36, .lit (.int .i64 x36)), (37, .lit (.int .i64 x37)), (38, .ptr 3 0), (39, .lit (.int .i64 x39))] ∧ H = [.bx 30 [.lit (.int .i64 x465000), .row 1 x465001.length false (ints .i64 x465001)], .bx 27 [.lit (.int .i64 x472000), .lit (.int .i64 x472001), .own 4 x472002.length], .bx 27 [.lit (.int .i64 x479000), .lit (.int .i64 x479001), .own 5 x479002.length], .bx 27 [.lit (.int .i64 x521000), .lit (.int .i64 x521001), .own 6 x521002.length], .sl 3 1 x472002.length false (ints .i64 x472002), .sl 3 1 x479002.length false (ints .i64 x479002), .sl 3 1 x521002.length false (ints .i64 x521002)] ∧ laws_FnOrdersAsTables.l2 kk x30 x31 x32 x36 x37 x39 x521000 x521001 x521002 = some true) (k := k95)
           ⟨_, _, ⟨Nat.le_refl _, _, _, _, _, _, _, _, _, _, _, _, _, _, _, _, _, rfl, rfl, h⟩, IsPart.at [(3, 1)] [0, 1, 2, 5, 3, 4, 6] base0 (H.c (H.c (H.c (H.c (H.c (H.c (H.c .nil))))))) (E.c (E.c (E.c (E.c (E.c (E.c (E.c (E.c (E.c (E.c .nil))))))))))⟩ ?_
          clear h
          rintro k98 e H ⟨hk99, x30, x31, x32, x36, x37, x39, x465000, x472000, x472001, x472002, x479000, x479001, x479002, x521000, x521001, x521002, rfl, rfl, h⟩
          cases k98 with
          | zero => exact absurd h (by simp [laws_FnOrdersAsTables.l2])
          | succ k98 =>
          simp only [laws_FnOrdersAsTables.l2] at h
          refine AWp.seq ?_
          refine AWp.seq ?_
          refine AWp.region ?_
          refine L.Y Y.mv ?_
          refine L.Y Y.mv ?_
          refine L.Y Y.bin ?_
          refine AList.nil ?_
          refine W.cond (fun hb => ?_) (fun hb => ?_)
          ·
           have hb100 := hb
           try simp only [hS, hE, ne_eq] at hb
           first | rw [if_pos hb100] at h | rw [if_neg (Bool.eq_false_iff.1 hb100)] at h | rw [if_pos hb] at h | rw [if_neg hb] at h | (simp only [hb, hT, reduceIte] at h) | skip
           repeat (first | (rw [iN] at h; obtain ⟨_, h⟩ := h) | (rw [iP] at h; obtain ⟨_, h⟩ := h) | (simp only [bS] at h))
           refine AWp.skip ?_
           refine AWp.seq ?_
           refine AWp.block ?_
           refine Dt.reg [] [12, 14] (.y 0 (.t 1 (.y 2 (.y 3 (.y 4 (.y 5 (.y 6 (.y 7 (.y 8 (.y 9 (.y 10 (.one 11 (.last 12 (.y 13 (.one 14 .done))))))))))))))) HM ?_
           refine Dt.Y rfl wantN (Y.fa (off := 2) Tryd.underlying27 Y22) ?_
           refine Dt.T rfl wantN (D.ld Tryd.underlying22) ?_
           refine Dt.Y rfl wantN Y.mv ?_
           refine Dt.Y rfl wantN Y.mv ?_
           refine Dt.Y rfl wantN Y.mv ?_
           refine Dt.Y rfl wantN Y.bin ?_
           refine Dt.Y rfl wantN Y.bin ?_
           refine Dt.Y rfl wantN Y.mv ?_
           refine Dt.Y rfl wantN Y.bin ?_
           refine Dt.Y rfl wantN Y.bin ?_
           refine Dt.Y rfl wantN Y.bin ?_
           refine Dt.O (g' := false) rfl wantN ?_
           refine Ox.M (M.bs Tryd.underlying22 Y3) ?_
           refine Dt.L rfl wantN ?_
           refine Op.S (S.ap (nn' := false) Tryd.underlying22 Y3) ?_
           refine Du.Y rfl wantN (Y.fa (off := 2) Tryd.underlying27 Y22) ?_
           refine Du.L rfl wantN ?_
           refine Op.S (S.stb Y22) ?_
           refine Du.nil ?_
           refine W.kp [5, 8, 10, 30, 31, 32, 36, 37, 38, 39, 250] ?_
           refine AWp.region ?_
           refine L.Y Y.mv ?_
           refine L.Y Y.bin ?_
           refine L.Y Y.asg ?_
           refine AList.nil ?_
           exact ⟨k98, by omega, _, _, ⟨by omega, _, _, _, _, _, _, _, _, _, _, _, _, _, _, _, _, rfl, rfl, h⟩, IsPart.at [] [0, 1, 2, 3, 4, 5, 6] base0 (H.c (H.c (H.c (H.c (H.c (H.c (H.c .nil))))))) (E.c (E.c (E.c (E.c (E.c (E.c (E.c (E.c (E.c (E.c .nil))))))))))⟩
          ·
           have hb100 := hb
           try simp only [hS, hE, ne_eq] at hb
           first | rw [if_pos hb100] at h | rw [if_neg (Bool.eq_false_iff.1 hb100)] at h | rw [if_pos hb] at h | rw [if_neg hb] at h | (simp only [hb, hT, reduceIte] at h) | skip
           refine AWp.exit ?_
           refine AWp.seq ?_
           refine AWp.region ?_
           refine L.S (S.ldN Tryd.underlying27 Y27) ?_
           replace h := Option.bind_eq_some_iff.1 h
           obtain ⟨⟨t524, t525⟩, hc101, h⟩ := h
           dsimp only at h
           refine L.C (C.callE (l := true) [] Tryd.func40 (impl_IsBiorder.ac _ _ _ _ _ _ hc101) .nil ?_)
           refine L.Y Y.mv ?_
           refine L.Y Y.ex ?_
           refine L.Y Y.ex ?_
           refine L.Y Y.asg ?_
           refine L.Y Y.asg ?_
           refine AList.nil ?_
           refine AWp.seq ?_
           refine AWp.seq ?_
           refine W.kp [5, 8, 10, 30, 31, 32, 36, 37, 38, 39, 40, 41, 250] ?_
           refine AWp.region ?_
           refine L.Y Y.mv ?_
           refine L.Y Y.nt ?_
           refine AList.nil ?_
           refine W.cond (fun hb => ?_) (fun hb => ?_)
           ·
            have hb102 := hb
            try simp only [hS, hE, ne_eq] at hb
            first | rw [if_pos hb102] at h | rw [if_neg (Bool.eq_false_iff.1 hb102)] at h | rw [if_pos hb] at h | rw [if_neg hb] at h | (simp only [hb, hT, reduceIte] at h) | skip
            exfalso
            revert h
            exact fun h => by simp at h
           ·
            have hb102 := hb
            try simp only [hS, hE, ne_eq] at hb
            first | rw [if_pos hb102] at h | rw [if_neg (Bool.eq_false_iff.1 hb102)] at h | rw [if_pos hb] at h | rw [if_neg hb] at h | (simp only [hb, hT, reduceIte] at h) | skip
            refine AWp.skip ?_
            refine AWp.seq ?_
            refine AWp.region ?_
            refine L.Y Y.mv ?_
            refine AList.nil ?_
            refine W.cond (fun hb => ?_) (fun hb => ?_)
            ·
             have hb103 := hb
             try simp only [hS, hE, ne_eq] at hb
             first | rw [if_pos hb103] at h | rw [if_neg (Bool.eq_false_iff.1 hb103)] at h | rw [if_pos hb] at h | rw [if_neg hb] at h | (simp only [hb, hT, reduceIte] at h) | skip
             refine AWp.region ?_
             refine L.Y Y.mv ?_
             refine L.Y Y.bin ?_
             refine L.Y Y.asg ?_
             refine AList.nil ?_
             refine AWp.region ?_
             refine L.Y Y.mv ?_
             refine L.Y Y.bin ?_
             refine L.Y Y.asg ?_
             refine AList.nil ?_
             exact ⟨k98, by omega, _, _, ⟨by omega, _, _, _, _, _, _, _, _, _, _, _, _, _, rfl, rfl, h⟩, IsPart.at [] [0, 1, 2, 4, 5] base0 (H.c (H.c (H.c (H.c (H.c .nil))))) (E.c (E.c (E.c (E.c (E.c (E.c (E.c (E.c .nil))))))))⟩
            ·
             have hb103 := hb
             try simp only [hS, hE, ne_eq] at hb
             first | rw [if_pos hb103] at h | rw [if_neg (Bool.eq_false_iff.1 hb103)] at h | rw [if_pos hb] at h | rw [if_neg hb] at h | (simp only [hb, hT, reduceIte] at h) | skip
             refine AWp.skip ?_
             refine AWp.region ?_
             refine L.Y Y.mv ?_
             refine L.Y Y.bin ?_
             refine L.Y Y.asg ?_
             refine AList.nil ?_
             exact ⟨k98, by omega, _, _, ⟨by omega, _, _, _, _, _, _, _, _, _, _, _, _, _, rfl, rfl, h⟩, IsPart.at [] [0, 1, 2, 4, 5] base0 (H.c (H.c (H.c (H.c (H.c .nil))))) (E.c (E.c (E.c (E.c (E.c (E.c (E.c (E.c .nil))))))))⟩
         ·
          have hb97 := hb
          try simp only [hS, hE, ne_eq] at hb
          first | rw [if_pos hb97] at h | rw [if_neg (Bool.eq_false_iff.1 hb97)] at h | rw [if_pos hb] at h | rw [if_neg hb] at h | (simp only [hb, hT, reduceIte] at h) | skip
          refine AWp.exit ?_
          refine AWp.seq ?_
          refine W.kp [5, 8, 10, 30, 31, 32, 36, 37, 242] ?_
          refine AWp.region ?_
          refine L.Y Y.mv ?_
          refine L.Y Y.mv ?_
          refine L.Y Y.bin ?_
          refine L.Y Y.asg ?_
          refine AList.nil ?_
          refine AWp.ret ?_
          first | (exfalso; cases h; done) | exact ⟨.inr rfl, [(4, _)], _, ⟨rfl, rfl⟩, IsPart.at [] [] base0 .nil (E.c .nil (hs := Sub.litE (LV h)))⟩
        ·
         have hb94 := hb
         try simp only [hS, hE, ne_eq] at hb
         first | rw [if_pos hb94] at h | rw [if_neg (Bool.eq_false_iff.1 hb94)] at h | rw [if_pos hb] at h | rw [if_neg hb] at h | (simp only [hb, hT, reduceIte] at h) | skip
         refine AWp.skip ?_
         refine AWp.seq ?_
         refine W.kp [0, 1, 4, 5, 6, 7, 8, 9, 10, 11, 30, 31, 32, 33, 34, 35, 44, 73, 79, 229, 236] ?_
         refine AWp.region ?_
         refine L.Y Y.asg ?_
         refine AList.nil ?_
         refine AWp.ret ?_
         first | (exfalso; cases h; done) | exact ⟨.inr rfl, [(4, _)], _, ⟨rfl, rfl⟩, IsPart.at [] [] base0 .nil (E.c .nil (hs := Sub.litE (LV h)))⟩
       ·
        have hb93 := hb
        try simp only [hS, hE, ne_eq] at hb
        first | rw [if_pos hb93] at h | rw [if_neg (Bool.eq_false_iff.1 hb93)] at h | rw [if_pos hb] at h | rw [if_neg hb] at h | (simp only [hb, hT, reduceIte] at h) | skip
        refine L.Gn hb93 ?_
        refine L.Gn hb93 ?_
        refine L.Gn hb93 ?_
        refine L.Gn hb93 ?_
        refine L.Y (Y.pk (c := false) hb93) ?_
        refine AList.nil ?_
        rcases k with _ | k
        ·
         exact absurd h (by simp [laws_FnOrdersAsTables.j6])
        simp only [laws_FnOrdersAsTables.j6] at h
        refine W.cond (fun hb => ?_) (fun hb => ?_)
        ·
         first | exact Bool.false_ne_true ((Eq.symm (by assumption)).trans hb) | exact Bool.false_ne_true (hb.symm.trans (by assumption)) | exact DD hb
        have hb104 := hb
        try (first | rw [if_pos hb104] at h | rw [if_neg (Bool.eq_false_iff.1 hb104)] at h | rw [if_pos hb] at h | rw [if_neg hb] at h | (simp only [hb, hT, reduceIte] at h) | skip)
        refine AWp.skip ?_
        refine AWp.seq ?_
        refine W.kp [0, 1, 4, 5, 6, 7, 8, 9, 10, 11, 30, 31, 32, 33, 34, 35, 44, 73, 79, 229, 236] ?_
        refine AWp.region ?_
        refine L.Y Y.asg ?_
        refine AList.nil ?_
        refine AWp.ret ?_
        first | (exfalso; cases h; done) | exact ⟨.inr rfl, [(4, _)], _, ⟨rfl, rfl⟩, IsPart.at [] [] base0 .nil (E.c .nil (hs := Sub.litE (LV h)))⟩

/-- THE ONE PURE STATEMENT of laws_FnOrdersAsTables: yours. -/
def laws_FnOrdersAsTables.Pure : Prop := ∀ (l0 : List Int) (l1 : List Int), l0.length ≤ maxLen → l0.length * 1 ≤ 140737488351232 → (∀ x ∈ l0, (Lit.int .u8 x).wf = true) → l1.length ≤ maxLen → l1.length * 1 ≤ 140737488351232 → (∀ x ∈ l1, (Lit.int .u8 x).wf = true) → ∃ k, laws_FnOrdersAsTables.f k l0 l1 = some true
theorem laws_FnOrdersAsTables.walk (P : laws_FnOrdersAsTables.Pure) (a0 : Option Addr) (len0 cap0 : Nat) (z0 : List Int) (a1 : Option Addr) (len1 cap1 : Nat) (z1 : List Int) (w : World) (hT : TabIn w) (w0 : (a0 = none ∧ len0 = 0 ∧ cap0 = 0 ∧ z0 = []) ∨ ∃ x, a0 = some x ∧ len0 ≤ cap0 ∧ cap0 ≤ maxLen ∧ z0.length = cap0 ∧ (∀ i, i < z0.length → w.cell? (x.add i) = some (.int .u8 (z0.getD i 0))) ∧ ∀ n ∈ z0, (Lit.int .u8 n).wf = true) (y0 : len0 * 1 ≤ 140737488351232) (w1 : (a1 = none ∧ len1 = 0 ∧ cap1 = 0 ∧ z1 = []) ∨ ∃ x, a1 = some x ∧ len1 ≤ cap1 ∧ cap1 ≤ maxLen ∧ z1.length = cap1 ∧ (∀ i, i < z1.length → w.cell? (x.add i) = some (.int .u8 (z1.getD i 0))) ∧ ∀ n ∈ z1, (Lit.int .u8 n).wf = true) (y1 : len1 * 1 ≤ 140737488351232) :
  Calls Tryd.prog 7 #[.slice a0 len0 cap0, .slice a1 len1 cap1] w fun e w' => e = .returned (.bool true) ∧ Below w.heap.size w w' := by
 obtain ⟨hl0, hv0⟩ := VR.came (A0 := fun _ => .bool false) (H := []) w0
 obtain ⟨hm0, hw0⟩ := came_fits w0
 have y0' := y0
 rw [← hl0] at y0'
 obtain ⟨hl1, hv1⟩ := VR.came (A0 := fun _ => .bool false) (H := []) w1
 obtain ⟨hm1, hw1⟩ := came_fits w1
 have y1' := y1
 rw [← hl1] at y1'
 obtain ⟨k, h⟩ := P (z0.take len0) (z1.take len1) hm0 y0' hw0 hm1 y1' hw1
 refine ACalls.law (vs := [.slice a0 len0 cap0, .slice a1 len1 cap1]) (tabP_of hT) (laws_FnOrdersAsTables.ac k (z0.take len0) (z1.take len1) h) ?_
 repeat' first | assumption | exact VRs_nil | exact VR_lit | refine VRs_cons ?_ ?_ | refine VR_agg ?_

end Go.Proofs.YtpippjgphndjmaaDoor.PFnOrdersAsTables
