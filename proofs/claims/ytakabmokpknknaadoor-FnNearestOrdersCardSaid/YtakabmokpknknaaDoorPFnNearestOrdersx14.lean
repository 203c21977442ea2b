-- Written by a program of this session's (wip/myprint2): the functions by the kit's print, the walks by awgen.py. Lean checks it.
import Derived.Test.YtakabmokpknknaaDoorPFnNearestOrdersx0
import Derived.Test.YtakabmokpknknaaDoorPFnNearestOrdersx4
import Derived.Test.YtakabmokpknknaaDoorPFnNearestOrdersx9
import Derived.Test.YtakabmokpknknaaDoorPFnNearestOrdersx12
import Derived.Test.YtakabmokpknknaaDoorPFnNearestOrdersx13
namespace Go.Proofs.YtakabmokpknknaaDoor.PFnNearestOrders
open Go.RowKit Go.Proofs.YtakabmokpknknaaDoorW.PrintWords Go.Proofs.YtakabmokpknknaaDoorW.PrintLast Go.Proofs.YtakabmokpknknaaDoorW.PrintMore Go.Proofs.YtakabmokpknknaaDoorM Go.Proofs.YtakabmokpknknaaDoorA Go.Proofs.YtakabmokpknknaaDoorT
attribute [local go_sem] max2_int min2_int max_two min_two max_three min_three max_four min_four   -- for this text's walks alone
set_option linter.unusedVariables false
set_option linter.unusedSimpArgs false

/-! ### laws_FnNearestOrders: function 4 -/
mutual
def laws_FnNearestOrders.j0 : Nat → List Int → Int → Int → Bool → Bool → Int → List Int → Int → List Int → Option (Bool)
 | 0, _, _, _, _, _, _, _, _, _ => none
 | k + 1, x1, x6, x8, x9, x74, x627000, x627001, x634000, x634001 => if x74 = true then (some false) else (if x9 = true then ((impl_PairsApart.f k x627000 x627001 x634000 x634001).bind fun bt642 => ((impl_OrdersOf.f k x627000 x6).bind fun bt644 => (if bt642.2 = true then (if bt642.1 = x8 then (laws_FnNearestOrders.j1 k x1 x6 x8 bt644.1 (!bt644.2) x627000 x627001) else (laws_FnNearestOrders.j1 k x1 x6 x8 bt644.1 true x627000 x627001)) else (laws_FnNearestOrders.j1 k x1 x6 x8 bt644.1 true x627000 x627001)))) else (laws_FnNearestOrders.j3 k x1))
def laws_FnNearestOrders.j3 : Nat → List Int → Option (Bool)
 | 0, _ => none
 | k + 1, x1 => (spec_DrawPairsApart.f k x1).bind fun bt660 => ((impl_PairsApart.f k bt660.1 bt660.2.1 bt660.2.2.1 bt660.2.2.2).bind fun bt670 => ((spec_PairsApart.f k bt660.1 bt660.2.1 bt660.2.2.1 bt660.2.2.2).bind fun bt672 => ((spec_DrawOrdersOf.f x1).bind fun bt674 => ((impl_OrdersOf.f k bt674.1 bt674.2).bind fun bt676 => ((spec_OrdersOf.f k bt674.1 bt674.2).bind fun bt680 => (if (bt670.2 != bt672.2) = true then (laws_FnNearestOrders.j4 k bt676.1 bt680.1 true) else (if bt670.1 = bt672.1 then (if (bt676.2 != bt680.2) = true then (laws_FnNearestOrders.j4 k bt676.1 bt680.1 true) else (laws_FnNearestOrders.j4 k bt676.1 bt680.1 ((bt676.1.length : Int) != (bt680.1.length : Int)))) else (laws_FnNearestOrders.j4 k bt676.1 bt680.1 true))))))))
def laws_FnNearestOrders.j4 : Nat → List (S26) → List (S26) → Bool → Option (Bool)
 | 0, _, _, _ => none
 | k + 1, x33, x35, x200 => if x200 = true then (some false) else (laws_FnNearestOrders.l1 k x33 x35 x33 (x33.length : Int) 0)
def laws_FnNearestOrders.l1 : Nat → List (S26) → List (S26) → List (S26) → Int → Int → Option (Bool)
 | 0, _, _, _, _, _ => none
 | k + 1, x33, x35, x201, x202, x203 => if x203 < x202 then (if 0 ≤ x203 then (if x203 < (x201.length : Int) then (if x203 < (x35.length : Int) then ((laws_vOrder.f k ((Enc.rd x201 x203).f0) ((Enc.rd x201 x203).f1) ((Enc.rd x35 x203).f0) ((Enc.rd x35 x203).f1)).bind fun t687 => (if t687 = true then (if x203 > 0 then (if 0 ≤ (wrap64 (x203 - 1)) then (if (wrap64 (x203 - 1)) < (x33.length : Int) then ((laws_vLess.f k ((Enc.rd x33 (wrap64 (x203 - 1))).f1) ((Enc.rd x201 x203).f1)).bind fun t689 => (if t689 = true then (laws_FnNearestOrders.l1 k x33 x35 x201 x202 (wrap64 (x203 + 1))) else (some false))) else (none)) else (none)) else (laws_FnNearestOrders.l1 k x33 x35 x201 x202 (wrap64 (x203 + 1)))) else (some false))) else (none)) else (none)) else (none)) else (some true)
def laws_FnNearestOrders.j1 : Nat → List Int → Int → Int → List (S26) → Bool → Int → List Int → Option (Bool)
 | 0, _, _, _, _, _, _, _ => none
 | k + 1, x1, x6, x8, x15, x99, x627000, x627001 => if x99 = true then (some false) else (laws_FnNearestOrders.l0 k x1 x6 x8 false x15 (x15.length : Int) 0 x627000 x627001)
def laws_FnNearestOrders.l0 : Nat → List Int → Int → Int → Bool → List (S26) → Int → Int → Int → List Int → Option (Bool)
 | 0, _, _, _, _, _, _, _, _, _ => none
 | k + 1, x1, x6, x8, x17, x100, x101, x102, x627000, x627001 => if x102 < x101 then (if 0 ≤ x102 then (if x102 < (x100.length : Int) then ((impl_PairsApart.f k x627000 x627001 ((Enc.rd x100 x102).f0) ((Enc.rd x100 x102).f1)).bind fun bt650 => (if bt650.2 = true then (if bt650.1 < x8 then (some false) else (if x17 = true then (laws_FnNearestOrders.l0 k x1 x6 x8 true x100 x101 (wrap64 (x102 + 1)) x627000 x627001) else ((laws_vOrder.f k ((Enc.rd x100 x102).f0) ((Enc.rd x100 x102).f1) x627000 x627001).bind fun t652 => (laws_FnNearestOrders.l0 k x1 x6 x8 t652 x100 x101 (wrap64 (x102 + 1)) x627000 x627001)))) else (some false))) else (none)) else (none)) else (if (x17 != (x8 == 0)) = true then (some false) else (if x6 < 3 then ((impl_NearestOf.f k x627000 x627001 (wrap64 (x6 + 1))).bind fun bt653 => (if bt653.2.2.2 = true then (if bt653.2.2.1 > x8 then (some false) else (laws_FnNearestOrders.j3 k x1)) else (some false))) else (laws_FnNearestOrders.j3 k x1)))
end
def laws_FnNearestOrders.f (k : Nat) (l0 : List Int) (l1 : List Int) : Option (Bool) := (laws_big.f l0 l1).bind fun t620 => (if t620 = true then (some true) else ((spec_DrawNearestOf.f k l0).bind fun bt621 => ((impl_NearestOf.f k bt621.1 bt621.2.1 bt621.2.2).bind fun bt627 => ((spec_NearestOf.f k bt621.1 bt621.2.1 bt621.2.2).bind fun bt634 => (if (bt627.2.2.2 != bt634.2.2.2) = true then (laws_FnNearestOrders.j0 k l1 bt621.2.2 bt627.2.2.1 bt627.2.2.2 true bt621.1 bt621.2.1 bt627.1 bt627.2.1) else ((laws_vOrder.f k bt627.1 bt627.2.1 bt634.1 bt634.2.1).bind fun t641 => (if t641 = true then (laws_FnNearestOrders.j0 k l1 bt621.2.2 bt627.2.2.1 bt627.2.2.2 (bt627.2.2.1 != bt634.2.2.1) bt621.1 bt621.2.1 bt627.1 bt627.2.1) else (laws_FnNearestOrders.j0 k l1 bt621.2.2 bt627.2.2.1 bt627.2.2.2 true bt621.1 bt621.2.1 bt627.1 bt627.2.1))))))))
set_option maxRecDepth 100000 in
set_option maxHeartbeats 20000000 in
theorem laws_FnNearestOrders.ac (k : Nat) (l0 : List Int) (l1 : List Int)  (h : laws_FnNearestOrders.f k l0 l1 = some true) :
  ACalls Tryd.prog 4 [.row 1 l0.length false (ints .u8 l0), .row 1 l1.length false (ints .u8 l1)] [] (fun v H' => v = .lit (.bool true) ∧ H' = []) := by
 refine ACalls.ofP [4] Tryd.func4 rfl (by exact Nat.le_of_ble_eq_true rfl) rfl (by decide) ?_
 simp only [Tryd.ntmps4, env0, laws_FnNearestOrders.f] at h ⊢
 refine AWp.seq ?_
 refine AWp.region ?_
 refine L.Y Y.asg ?_
 refine AList.nil ?_
 refine AWp.seq ?_
 refine AWp.seq ?_
 refine AWp.region ?_
 refine L.Y Y.mv ?_
 refine L.Y Y.mv ?_
 replace h := Option.bind_eq_some_iff.1 h
 obtain ⟨t620, hc1, h⟩ := h
 refine L.C (C.callE (l := true) [] Tryd.func16 (laws_big.ac _ _ _ hc1) .nil ?_)
 refine AList.nil ?_
 refine W.cond (fun hb => ?_) (fun hb => ?_)
 ·
  have hb2 := hb
  try simp only [hS, hE, ne_eq] at hb
  first | rw [if_pos hb2] at h | rw [if_neg (Bool.eq_false_iff.1 hb2)] at h | rw [if_pos hb] at h | rw [if_neg hb] at h | (simp only [hb, hT, reduceIte] at h) | skip
  refine AWp.seq ?_
  refine AWp.region ?_
  refine L.Y Y.asg ?_
  refine AList.nil ?_
  refine AWp.ret ?_
  first | (exfalso; cases h; done) | exact ⟨.inr rfl, [(4, _)], _, ⟨rfl, rfl⟩, IsPart.at [] [] base0 .nil (E.c .nil (hs := Sub.litE (LV h)))⟩
 ·
  have hb2 := hb
  try simp only [hS, hE, ne_eq] at hb
  first | rw [if_pos hb2] at h | rw [if_neg (Bool.eq_false_iff.1 hb2)] at h | rw [if_pos hb] at h | rw [if_neg hb] at h | (simp only [hb, hT, reduceIte] at h) | skip
  refine AWp.skip ?_
  refine AWp.seq ?_
  refine AWp.region ?_
  refine L.Y Y.mv ?_
  replace h := Option.bind_eq_some_iff.1 h
  obtain ⟨⟨t621, t622, t625⟩, hc3, h⟩ := h
  dsimp only at h
  refine L.C (C.callE (l := true) [] Tryd.func17 (spec_DrawNearestOf.ac _ _ _ _ _ hc3) .nil ?_)
  refine L.Y Y.mv ?_
  refine L.Y Y.ex ?_
  refine L.Y Y.ex ?_
  refine L.M (M.al Y26) ?_
  refine L.S (S.stb Y26) ?_
  refine L.Y Y.asg ?_
  refine AList.nil ?_
  refine AWp.seq ?_
  refine W.kp [0, 1, 4, 5, 6, 41] ?_
  refine AWp.region ?_
  refine L.S (S.ldN Tryd.underlying26 Y26) ?_
  refine L.Y Y.mv ?_
  replace h := Option.bind_eq_some_iff.1 h
  obtain ⟨⟨t627, t628, t631, t632⟩, hc4, h⟩ := h
  dsimp only at h
  refine L.C ?_
  refine C.frz 0 ?_
  refine C.callE (l := false) [] Tryd.func12 (impl_NearestOf.ac _ _ _ _ _ _ _ _ hc4) .nil ?_
  refine L.Y Y.mv ?_
  refine L.Y Y.ex ?_
  refine L.Y Y.ex ?_
  refine L.Y Y.ex ?_
  refine L.M (M.al Y26) ?_
  refine L.S (S.stb Y26) ?_
  refine L.Y Y.asg ?_
  refine L.Y Y.asg ?_
  refine AList.nil ?_
  refine AWp.seq ?_
  refine W.kp [0, 1, 4, 5, 6, 7, 8, 9, 41] ?_
  refine AWp.region ?_
  refine L.S (S.ldN Tryd.underlying26 Y26) ?_
  refine L.Y Y.mv ?_
  replace h := Option.bind_eq_some_iff.1 h
  obtain ⟨⟨t634, t635, t638, t639⟩, hc5, h⟩ := h
  dsimp only at h
  refine L.C (C.callE (l := false) [] Tryd.func10 (spec_NearestOf.ac _ _ _ _ _ _ _ _ hc5) .nil ?_)
  refine L.Y Y.mv ?_
  refine L.Y Y.ex ?_
  refine L.Y Y.ex ?_
  refine L.Y Y.ex ?_
  refine L.M (M.al Y26) ?_
  refine L.S (S.stb Y26) ?_
  refine L.Y Y.asg ?_
  refine L.Y Y.asg ?_
  refine AList.nil ?_
  refine AWp.seq ?_
  refine AWp.seq ?_
  refine W.kp [0, 1, 4, 5, 6, 7, 8, 9, 10, 11, 12, 41] ?_
  refine AWp.region ?_
  refine L.Y Y.mv ?_
  refine L.Y Y.mv ?_
  refine L.Y (Y.bb Tryd.underlying4) ?_
  refine L.Y Y.mv ?_
  refine L.Gc (fun hb => ?_) (fun hb => ?_)
  ·
   have hb6 := hb
   try simp only [hS, hE, ne_eq] at hb
   first | rw [if_pos hb6] at h | rw [if_neg (Bool.eq_false_iff.1 hb6)] at h | rw [if_pos hb] at h | rw [if_neg hb] at h | (simp only [hb, hT, reduceIte] at h) | skip
   exfalso
   revert h
   exact fun h => by cases k <;> simp [laws_FnNearestOrders.j0] at h
  ·
   have hb6 := hb
   try simp only [hS, hE, ne_eq] at hb
   first | rw [if_pos hb6] at h | rw [if_neg (Bool.eq_false_iff.1 hb6)] at h | rw [if_pos hb] at h | rw [if_neg hb] at h | (simp only [hb, hT, reduceIte] at h) | skip
   refine L.Gs hb6 (S.ldN Tryd.underlying26 Y26) ?_
   refine L.Gs hb6 (S.ldN Tryd.underlying26 Y26) ?_
   replace h := Option.bind_eq_some_iff.1 h
   obtain ⟨t641, hc7, h⟩ := h
   refine L.GC hb6 (C.callE (l := true) [] Tryd.func18 (laws_vOrder.ac _ _ _ _ _ _ hc7) .nil ?_)
   refine L.Gy hb6 Y.nt ?_
   refine L.Y (Y.pk (c := false) hb6) ?_
   refine L.Y Y.mv ?_
   refine L.Gc (fun hb => ?_) (fun hb => ?_)
   ·
    have hb8 := hb
    try simp only [hS, hE, ne_eq] at hb
    first | rw [if_pos hb8] at h | rw [if_neg (Bool.eq_false_iff.1 hb8)] at h | rw [if_pos hb] at h | rw [if_neg hb] at h | (simp only [hb, hT, reduceIte] at h) | skip
    exfalso
    revert h
    exact fun h => by cases k <;> simp [laws_FnNearestOrders.j0] at h
   ·
    have hb8 := hb
    try simp only [hS, hE, ne_eq] at hb
    first | rw [if_pos hb8] at h | rw [if_neg (Bool.eq_false_iff.1 hb8)] at h | rw [if_pos hb] at h | rw [if_neg hb] at h | (simp only [hb, hT, reduceIte] at h) | skip
    refine L.Gy hb8 Y.mv ?_
    refine L.Gy hb8 Y.mv ?_
    refine L.Gy hb8 Y.bin ?_
    refine L.Y (Y.pk (c := false) hb8) ?_
    refine AList.nil ?_
    rcases k with _ | k
    ·
     exact absurd h (by simp [laws_FnNearestOrders.j0])
    simp only [laws_FnNearestOrders.j0] at h
    refine W.cond (fun hb => ?_) (fun hb => ?_)
    ·
     have hb9 := hb
     try simp only [hS, hE, ne_eq] at hb
     first | rw [if_pos hb9] at h | rw [if_neg (Bool.eq_false_iff.1 hb9)] at h | rw [if_pos hb] at h | rw [if_neg hb] at h | (simp only [hb, hT, reduceIte] at h) | skip
     exfalso
     revert h
     exact fun h => by simp at h
    ·
     have hb9 := hb
     try simp only [hS, hE, ne_eq] at hb
     first | rw [if_pos hb9] at h | rw [if_neg (Bool.eq_false_iff.1 hb9)] at h | rw [if_pos hb] at h | rw [if_neg hb] at h | (simp only [hb, hT, reduceIte] at h) | skip
     refine AWp.skip ?_
     refine AWp.seq ?_
     refine AWp.seq ?_
     refine W.kp [0, 1, 4, 5, 6, 7, 8, 9, 10, 11, 12, 41, 74] ?_
     refine AWp.region ?_
     refine L.Y Y.mv ?_
     refine AList.nil ?_
     refine W.cond (fun hb => ?_) (fun hb => ?_)
     ·
      have hb10 := hb
      try simp only [hS, hE, ne_eq] at hb
      first | rw [if_pos hb10] at h | rw [if_neg (Bool.eq_false_iff.1 hb10)] at h | rw [if_pos hb] at h | rw [if_neg hb] at h | (simp only [hb, hT, reduceIte] at h) | skip
      refine AWp.seq ?_
      refine AWp.region ?_
      refine L.S (S.ldN Tryd.underlying26 Y26) ?_
      refine L.S (S.ldN Tryd.underlying26 Y26) ?_
      replace h := Option.bind_eq_some_iff.1 h
      obtain ⟨⟨t642, t643⟩, hc11, h⟩ := h
      dsimp only at h
      refine L.C (C.callE (l := true) [] Tryd.func19 (impl_PairsApart.ac _ _ _ _ _ _ _ hc11) .nil ?_)
      refine L.Y Y.mv ?_
      refine L.Y Y.ex ?_
      refine L.Y Y.ex ?_
      refine L.Y Y.asg ?_
      refine L.Y Y.asg ?_
      refine AList.nil ?_
      refine AWp.seq ?_
      refine W.kp [0, 1, 4, 5, 6, 7, 8, 9, 10, 11, 12, 13, 14, 41, 74, 75] ?_
      refine AWp.region ?_
      refine L.Y (Y.fa (off := 0) Tryd.underlying26 Y3) ?_
      refine L.S (S.ld Tryd.underlying3) ?_
      refine L.Y Y.mv ?_
      replace h := Option.bind_eq_some_iff.1 h
      obtain ⟨⟨t644, t645⟩, hc12, h⟩ := h
      dsimp only at h
      refine L.C (C.callE (l := false) [] Tryd.func20 (impl_OrdersOf.ac _ _ _ _ _ hc12) .nil ?_)
      refine L.Y Y.mv ?_
      refine L.Y Y.ex ?_
      refine L.Y Y.ex ?_
      refine L.Y Y.asg ?_
      refine L.Y Y.asg ?_
      refine AList.nil ?_
      refine AWp.seq ?_
      refine AWp.seq ?_
      refine W.kp [0, 1, 4, 5, 6, 7, 8, 9, 10, 11, 12, 13, 14, 15, 16, 41, 74, 75] ?_
      refine AWp.region ?_
      refine L.Y Y.mv ?_
      refine L.Y Y.nt ?_
      refine L.Y Y.mv ?_
      refine L.Gc (fun hb => ?_) (fun hb => ?_)
      ·
       have hb13 := hb
       try simp only [hS, hE, ne_eq] at hb
       first | rw [if_pos hb13] at h | rw [if_neg (Bool.eq_false_iff.1 hb13)] at h | rw [if_pos hb] at h | rw [if_neg hb] at h | (simp only [hb, hT, reduceIte] at h) | skip
       exfalso
       revert h
       exact fun h => by cases k <;> simp [laws_FnNearestOrders.j1] at h
      ·
       have hb13 := hb
       try simp only [hS, hE, ne_eq] at hb
       first | rw [if_pos hb13] at h | rw [if_neg (Bool.eq_false_iff.1 hb13)] at h | rw [if_pos hb] at h | rw [if_neg hb] at h | (simp only [hb, hT, reduceIte] at h) | skip
       refine L.Gy hb13 Y.mv ?_
       refine L.Gy hb13 Y.mv ?_
       refine L.Gy hb13 Y.bin ?_
       refine L.Y (Y.pk (c := false) hb13) ?_
       refine L.Y Y.mv ?_
       refine L.Gc (fun hb => ?_) (fun hb => ?_)
       ·
        have hb14 := hb
        try simp only [hS, hE, ne_eq] at hb
        first | rw [if_pos hb14] at h | rw [if_neg (Bool.eq_false_iff.1 hb14)] at h | rw [if_pos hb] at h | rw [if_neg hb] at h | (simp only [hb, hT, reduceIte] at h) | skip
        exfalso
        revert h
        exact fun h => by cases k <;> simp [laws_FnNearestOrders.j1] at h
       ·
        have hb14 := hb
        try simp only [hS, hE, ne_eq] at hb
        first | rw [if_pos hb14] at h | rw [if_neg (Bool.eq_false_iff.1 hb14)] at h | rw [if_pos hb] at h | rw [if_neg hb] at h | (simp only [hb, hT, reduceIte] at h) | skip
        refine L.Gy hb14 Y.mv ?_
        refine L.Gy hb14 Y.nt ?_
        refine L.Y (Y.pk (c := false) hb14) ?_
        refine AList.nil ?_
        rcases k with _ | k
        ·
         exact absurd h (by simp [laws_FnNearestOrders.j1])
        simp only [laws_FnNearestOrders.j1] at h
        refine W.cond (fun hb => ?_) (fun hb => ?_)
        ·
         have hb15 := hb
         try simp only [hS, hE, ne_eq] at hb
         first | rw [if_pos hb15] at h | rw [if_neg (Bool.eq_false_iff.1 hb15)] at h | rw [if_pos hb] at h | rw [if_neg hb] at h | (simp only [hb, hT, reduceIte] at h) | skip
         exfalso
         revert h
         exact fun h => by simp at h
        ·
         have hb15 := hb
         try simp only [hS, hE, ne_eq] at hb
         first | rw [if_pos hb15] at h | rw [if_neg (Bool.eq_false_iff.1 hb15)] at h | rw [if_pos hb] at h | rw [if_neg hb] at h | (simp only [hb, hT, reduceIte] at h) | skip
         refine AWp.skip ?_
         refine AWp.seq ?_
         refine W.kp [0, 1, 4, 5, 6, 7, 8, 9, 10, 11, 12, 13, 14, 15, 16, 41, 74, 75, 99] ?_
         refine AWp.region ?_
         refine L.Y Y.asg ?_
         refine AList.nil ?_
         refine AWp.seq ?_
         refine AWp.seq ?_
         refine AWp.region ?_
         refine L.Y Y.mv ?_
         refine L.Y (Y.ln Tryd.underlying39) ?_
         refine L.Y Y.mv ?_
         refine AList.nil ?_
         refine AWp.block ?_
         refine AWp.loopI (fun kk e H => kk ≤ k ∧ ∃ (x6 : Int) (x8 : Int) (x17 : Bool) (x100 : List (S26)) (x101 : Int) (x102 : Int) (x627000 : Int) (x627001 : List Int) (x634000 : Int) (x634001 : List Int) (x641000 : Int) (x641001 : List Int), e = [(1, .row 1 l1.length false (ints .u8 l1)), (5, .ptr 0 0), (6, .lit (.int .i64 x6)), (7, .ptr 1 0), (8, .lit (.int .i64 x8)), (10, .ptr 2 0), (17, .lit (.bool x17)), (100, .own 3 x100.length), (101, .lit (.int .i64 x101)), (102, .lit (.int .i64 x102))] ∧ H = [.bx 26 [.lit (.int .i64 x627000), .row 1 x627001.length false (ints .i64 x627001)], .bx 26 [.lit (.int .i64 x634000), .row 1 x634001.length false (ints .i64 x634001)], .bx 26 [.lit (.int .i64 x641000), .row 1 x641001.length false (ints .i64 x641001)], .sl 26 2 x100.length false (Enc.cells x100)] ∧ laws_FnNearestOrders.l0 kk l1 x6 x8 x17 x100 x101 x102 x627000 x627001 = some true) (k := k)
          ⟨_, _, ⟨Nat.le_refl _, _, _, _, _, _, _, _, _, _, _, _, _, rfl, rfl, h⟩, IsPart.at [] [1, 2, 3, 4] base0 (H.c (H.c (H.c (H.c .nil)))) (E.c (E.c (E.c (E.c (E.c (E.c (E.c (E.c (E.c (E.c .nil))))))))))⟩ ?_
         clear h
         rintro k16 e H ⟨hk17, x6, x8, x17, x100, x101, x102, x627000, x627001, x634000, x634001, x641000, x641001, rfl, rfl, h⟩
         cases k16 with
         | zero => exact absurd h (by simp [laws_FnNearestOrders.l0])
         | succ k16 =>
         simp only [laws_FnNearestOrders.l0] at h
         refine AWp.seq ?_
         refine AWp.region ?_
         refine L.Y Y.bin ?_
         refine AList.nil ?_
         refine AWp.seq ?_
         refine W.cond (fun hb => ?_) (fun hb => ?_)
         ·
          have hb18 := hb
          try simp only [hS, hE, ne_eq] at hb
          first | rw [if_pos hb18] at h | rw [if_neg (Bool.eq_false_iff.1 hb18)] at h | rw [if_pos hb] at h | rw [if_neg hb] at h | (simp only [hb, hT, reduceIte] at h) | skip
          repeat (first | (rw [iN] at h; obtain ⟨_, h⟩ := h) | (rw [iP] at h; obtain ⟨_, h⟩ := h) | (simp only [bS] at h))
          refine AWp.skip ?_
          refine AWp.seq ?_
          refine AWp.block ?_
          refine AWp.seq ?_
          refine AWp.region ?_
          refine L.Y (Y.ixo Tryd.underlying39 Y26) ?_
          refine L.S (S.ldTN 2 Tryd.underlying26 Y26 en_T26) ?_
          refine L.M (M.al Y26) ?_
          refine L.S (S.stb Y26) ?_
          refine AList.nil ?_
          refine AWp.seq ?_
          refine AWp.region ?_
          refine L.S (S.ldN Tryd.underlying26 Y26) ?_
          refine L.S (S.ldN Tryd.underlying26 Y26) ?_
          replace h := Option.bind_eq_some_iff.1 h
          obtain ⟨⟨t650, t651⟩, hc19, h⟩ := h
          dsimp only at h
          refine L.C (C.callE (l := true) [] Tryd.func19 (impl_PairsApart.ac _ _ _ _ _ _ _ hc19) .nil ?_)
          refine L.Y Y.mv ?_
          refine L.Y Y.ex ?_
          refine L.Y Y.ex ?_
          refine L.Y Y.asg ?_
          refine L.Y Y.asg ?_
          refine AList.nil ?_
          refine AWp.seq ?_
          refine AWp.seq ?_
          refine W.kp [1, 5, 6, 7, 8, 10, 17, 19, 20, 21, 100, 101, 102, 103] ?_
          refine AWp.region ?_
          refine L.Y Y.mv ?_
          refine L.Y Y.nt ?_
          refine L.Y Y.mv ?_
          refine L.Gc (fun hb => ?_) (fun hb => ?_)
          ·
           have hb20 := hb
           try simp only [hS, hE, ne_eq] at hb
           first | rw [if_pos hb20] at h | rw [if_neg (Bool.eq_false_iff.1 hb20)] at h | rw [if_pos hb] at h | rw [if_neg hb] at h | (simp only [hb, hT, reduceIte] at h) | skip
           exfalso
           revert h
           exact fun h => by simp at h
          ·
           have hb20 := hb
           try simp only [hS, hE, ne_eq] at hb
           first | rw [if_pos hb20] at h | rw [if_neg (Bool.eq_false_iff.1 hb20)] at h | rw [if_pos hb] at h | rw [if_neg hb] at h | (simp only [hb, hT, reduceIte] at h) | skip
           refine L.Gy hb20 Y.mv ?_
           refine L.Gy hb20 Y.mv ?_
           refine L.Gy hb20 Y.bin ?_
           refine L.Y (Y.pk (c := false) hb20) ?_
           refine AList.nil ?_
           refine W.cond (fun hb => ?_) (fun hb => ?_)
           ·
            have hb21 := hb
            try simp only [hS, hE, ne_eq] at hb
            first | rw [if_pos hb21] at h | rw [if_neg (Bool.eq_false_iff.1 hb21)] at h | rw [if_pos hb] at h | rw [if_neg hb] at h | (simp only [hb, hT, reduceIte] at h) | skip
            exfalso
            revert h
            exact fun h => by simp at h
           ·
            have hb21 := hb
            try simp only [hS, hE, ne_eq] at hb
            first | rw [if_pos hb21] at h | rw [if_neg (Bool.eq_false_iff.1 hb21)] at h | rw [if_pos hb] at h | rw [if_neg hb] at h | (simp only [hb, hT, reduceIte] at h) | skip
            refine AWp.skip ?_
            refine W.kp [1, 5, 6, 7, 8, 10, 17, 19, 20, 21, 100, 101, 102, 103, 118] ?_
            refine AWp.region ?_
            refine L.Y Y.mv ?_
            refine L.Y Y.mv ?_
            refine L.Gc (fun hb => ?_) (fun hb => ?_)
            ·
             have hb22 := hb
             try simp only [hS, hE, ne_eq] at hb
             first | rw [if_pos hb22] at h | rw [if_neg (Bool.eq_false_iff.1 hb22)] at h | rw [if_pos hb] at h | rw [if_neg hb] at h | (simp only [hb, hT, reduceIte] at h) | skip
             refine L.Gn hb22 ?_
             refine L.Gn hb22 ?_
             refine L.Gn hb22 ?_
             refine L.Y (Y.pk (c := true) hb22) ?_
             refine L.Y Y.asg ?_
             refine AList.nil ?_
             refine W.kp [1, 5, 6, 7, 8, 10, 17, 19, 20, 21, 100, 101, 102, 103, 118] ?_
             refine AWp.region ?_
             refine L.Y Y.bin ?_
             refine L.Y Y.mv ?_
             refine AList.nil ?_
             exact ⟨k16, by omega, _, _, ⟨by omega, _, _, _, _, _, _, _, _, _, _, _, _, rfl, rfl, h⟩, IsPart.at [] [0, 1, 2, 3] base0 (H.c (H.c (H.c (H.c .nil)))) (E.c (E.c (E.c (E.c (E.c (E.c (E.c (E.c (E.c (E.c .nil))))))))))⟩
            ·
             have hb22 := hb
             try simp only [hS, hE, ne_eq] at hb
             first | rw [if_pos hb22] at h | rw [if_neg (Bool.eq_false_iff.1 hb22)] at h | rw [if_pos hb] at h | rw [if_neg hb] at h | (simp only [hb, hT, reduceIte] at h) | skip
             refine L.Gs hb22 (S.ldN Tryd.underlying26 Y26) ?_
             refine L.Gs hb22 (S.ldN Tryd.underlying26 Y26) ?_
             replace h := Option.bind_eq_some_iff.1 h
             obtain ⟨t652, hc23, h⟩ := h
             refine L.GC hb22 (C.callE (l := true) [] Tryd.func18 (laws_vOrder.ac _ _ _ _ _ _ hc23) .nil ?_)
             refine L.Y (Y.pk (c := false) hb22) ?_
             refine L.Y Y.asg ?_
             refine AList.nil ?_
             refine W.kp [1, 5, 6, 7, 8, 10, 17, 19, 20, 21, 100, 101, 102, 103, 118] ?_
             refine AWp.region ?_
             refine L.Y Y.bin ?_
             refine L.Y Y.mv ?_
             refine AList.nil ?_
             exact ⟨k16, by omega, _, _, ⟨by omega, _, _, _, _, _, _, _, _, _, _, _, _, rfl, rfl, h⟩, IsPart.at [] [0, 1, 2, 3] base0 (H.c (H.c (H.c (H.c .nil)))) (E.c (E.c (E.c (E.c (E.c (E.c (E.c (E.c (E.c (E.c .nil))))))))))⟩
         ·
          have hb18 := hb
          try simp only [hS, hE, ne_eq] at hb
          first | rw [if_pos hb18] at h | rw [if_neg (Bool.eq_false_iff.1 hb18)] at h | rw [if_pos hb] at h | rw [if_neg hb] at h | (simp only [hb, hT, reduceIte] at h) | skip
          refine AWp.exit ?_
          refine AWp.seq ?_
          refine AWp.seq ?_
          refine AWp.region ?_
          refine L.Y Y.mv ?_
          refine L.Y Y.mv ?_
          refine L.Y Y.bin ?_
          refine L.Y (Y.bb Tryd.underlying4) ?_
          refine AList.nil ?_
          refine W.cond (fun hb => ?_) (fun hb => ?_)
          ·
           have hb24 := hb
           try simp only [hS, hE, ne_eq] at hb
           first | rw [if_pos hb24] at h | rw [if_neg (Bool.eq_false_iff.1 hb24)] at h | rw [if_pos hb] at h | rw [if_neg hb] at h | (simp only [hb, hT, reduceIte] at h) | skip
           exfalso
           revert h
           exact fun h => by simp at h
          ·
           have hb24 := hb
           try simp only [hS, hE, ne_eq] at hb
           first | rw [if_pos hb24] at h | rw [if_neg (Bool.eq_false_iff.1 hb24)] at h | rw [if_pos hb] at h | rw [if_neg hb] at h | (simp only [hb, hT, reduceIte] at h) | skip
           refine AWp.skip ?_
           refine AWp.seq ?_
           refine AWp.region ?_
           refine L.Y Y.mv ?_
           refine L.Y Y.bin ?_
           refine AList.nil ?_
           refine W.cond (fun hb => ?_) (fun hb => ?_)
           ·
            have hb25 := hb
            try simp only [hS, hE, ne_eq] at hb
            first | rw [if_pos hb25] at h | rw [if_neg (Bool.eq_false_iff.1 hb25)] at h | rw [if_pos hb] at h | rw [if_neg hb] at h | (simp only [hb, hT, reduceIte] at h) | skip
            refine AWp.seq ?_
            refine W.kp [1, 5, 6, 7, 8, 10, 17, 100, 101, 102, 103, 129, 131] ?_
            refine AWp.region ?_
            refine L.S (S.ldN Tryd.underlying26 Y26) ?_
            refine L.Y Y.mv ?_
            refine L.Y Y.bin ?_
            replace h := Option.bind_eq_some_iff.1 h
            obtain ⟨⟨t653, t654, t657, t658⟩, hc26, h⟩ := h
            dsimp only at h
            refine L.C (C.callE (l := false) [] Tryd.func12 (impl_NearestOf.ac _ _ _ _ _ _ _ _ hc26) .nil ?_)
            refine L.Y Y.mv ?_
            refine L.Y Y.ex ?_
            refine L.Y Y.ex ?_
            refine L.Y Y.ex ?_
            refine L.M (M.al Y26) ?_
            refine L.S (S.stb Y26) ?_
            refine L.Y Y.asg ?_
            refine L.Y Y.asg ?_
            refine AList.nil ?_
            refine AWp.seq ?_
            refine W.kp [1, 5, 6, 7, 8, 10, 17, 23, 24, 100, 101, 102, 103, 129, 131] ?_
            refine AWp.region ?_
            refine L.Y Y.mv ?_
            refine L.Y Y.nt ?_
            refine L.Y Y.mv ?_
            refine L.Gc (fun hb => ?_) (fun hb => ?_)
            ·
             have hb27 := hb
             try simp only [hS, hE, ne_eq] at hb
             first | rw [if_pos hb27] at h | rw [if_neg (Bool.eq_false_iff.1 hb27)] at h | rw [if_pos hb] at h | rw [if_neg hb] at h | (simp only [hb, hT, reduceIte] at h) | skip
             exfalso
             revert h
             exact fun h => by simp at h
            ·
             have hb27 := hb
             try simp only [hS, hE, ne_eq] at hb
             first | rw [if_pos hb27] at h | rw [if_neg (Bool.eq_false_iff.1 hb27)] at h | rw [if_pos hb] at h | rw [if_neg hb] at h | (simp only [hb, hT, reduceIte] at h) | skip
             refine L.Gy hb27 Y.mv ?_
             refine L.Gy hb27 Y.mv ?_
             refine L.Gy hb27 Y.bin ?_
             refine L.Y (Y.pk (c := false) hb27) ?_
             refine AList.nil ?_
             refine W.cond (fun hb => ?_) (fun hb => ?_)
             ·
              have hb28 := hb
              try simp only [hS, hE, ne_eq] at hb
              first | rw [if_pos hb28] at h | rw [if_neg (Bool.eq_false_iff.1 hb28)] at h | rw [if_pos hb] at h | rw [if_neg hb] at h | (simp only [hb, hT, reduceIte] at h) | skip
              exfalso
              revert h
              exact fun h => by simp at h
             ·
              have hb28 := hb
              try simp only [hS, hE, ne_eq] at hb
              first | rw [if_pos hb28] at h | rw [if_neg (Bool.eq_false_iff.1 hb28)] at h | rw [if_pos hb] at h | rw [if_neg hb] at h | (simp only [hb, hT, reduceIte] at h) | skip
              refine AWp.skip ?_
              refine AWp.seq ?_
              refine W.kp [1, 5, 6, 7, 8, 10, 17, 23, 24, 100, 101, 102, 103, 129, 131, 146] ?_
              refine AWp.region ?_
              refine L.Y Y.mv ?_
              rcases k16 with _ | k16
              ·
               exact absurd h (by simp [laws_FnNearestOrders.j3])
              simp only [laws_FnNearestOrders.j3] at h
              replace h := Option.bind_eq_some_iff.1 h
              obtain ⟨⟨t660, t661, t664, t665⟩, hc29, h⟩ := h
              dsimp only at h
              refine L.C (C.callE (l := true) [] Tryd.func21 (spec_DrawPairsApart.ac _ _ _ _ _ _ hc29) .nil ?_)
              refine L.Y Y.mv ?_
              refine L.Y Y.ex ?_
              refine L.Y Y.ex ?_
              refine L.M (M.al Y26) ?_
              refine L.M (M.al Y26) ?_
              refine L.S (S.stb Y26) ?_
              refine L.S (S.stb Y26) ?_
              refine AList.nil ?_
              refine AWp.seq ?_
              refine W.kp [1, 5, 6, 7, 8, 10, 17, 23, 24, 25, 26, 100, 101, 102, 103, 129, 131, 146] ?_
              refine AWp.region ?_
              refine L.S (S.ldN Tryd.underlying26 Y26) ?_
              refine L.S (S.ldN Tryd.underlying26 Y26) ?_
              replace h := Option.bind_eq_some_iff.1 h
              obtain ⟨⟨t670, t671⟩, hc30, h⟩ := h
              dsimp only at h
              refine L.C (C.callE (l := true) [] Tryd.func19 (impl_PairsApart.ac _ _ _ _ _ _ _ hc30) .nil ?_)
              refine L.Y Y.mv ?_
              refine L.Y Y.ex ?_
              refine L.Y Y.ex ?_
              refine L.Y Y.asg ?_
              refine L.Y Y.asg ?_
              refine AList.nil ?_
              refine AWp.seq ?_
              refine W.kp [1, 5, 6, 7, 8, 10, 17, 23, 24, 25, 26, 27, 28, 100, 101, 102, 103, 129, 131, 146] ?_
              refine AWp.region ?_
              refine L.S (S.ldN Tryd.underlying26 Y26) ?_
              refine L.S (S.ldN Tryd.underlying26 Y26) ?_
              replace h := Option.bind_eq_some_iff.1 h
              obtain ⟨⟨t672, t673⟩, hc31, h⟩ := h
              dsimp only at h
              refine L.C (C.callE (l := true) [] Tryd.func22 (spec_PairsApart.ac _ _ _ _ _ _ _ hc31) .nil ?_)
              refine L.Y Y.mv ?_
              refine L.Y Y.ex ?_
              refine L.Y Y.ex ?_
              refine L.Y Y.asg ?_
              refine L.Y Y.asg ?_
              refine AList.nil ?_
              refine AWp.seq ?_
              refine W.kp [1, 5, 6, 7, 8, 10, 17, 23, 24, 25, 26, 27, 28, 29, 30, 100, 101, 102, 103, 129, 131, 146] ?_
              refine AWp.region ?_
              refine L.Y Y.mv ?_
              replace h := Option.bind_eq_some_iff.1 h
              obtain ⟨⟨t674, t675⟩, hc32, h⟩ := h
              dsimp only at h
              refine L.C (C.callE (l := true) [] Tryd.func23 (spec_DrawOrdersOf.ac _ _ _ hc32) .nil ?_)
              refine L.Y Y.mv ?_
              refine L.Y Y.ex ?_
              refine L.Y Y.ex ?_
              refine L.Y Y.asg ?_
              refine L.Y Y.asg ?_
              refine AList.nil ?_
              refine AWp.seq ?_
              refine W.kp [1, 5, 6, 7, 8, 10, 17, 23, 24, 25, 26, 27, 28, 29, 30, 31, 32, 100, 101, 102, 103, 129, 131, 146] ?_
              refine AWp.region ?_
              refine L.Y Y.mv ?_
              refine L.Y Y.mv ?_
              replace h := Option.bind_eq_some_iff.1 h
              obtain ⟨⟨t676, t677⟩, hc33, h⟩ := h
              dsimp only at h
              refine L.C (C.callE (l := false) [] Tryd.func20 (impl_OrdersOf.ac _ _ _ _ _ hc33) .nil ?_)
              refine L.Y Y.mv ?_
              refine L.Y Y.ex ?_
              refine L.Y Y.ex ?_
              refine L.Y Y.asg ?_
              refine L.Y Y.asg ?_
              refine AList.nil ?_
              refine AWp.seq ?_
              refine W.kp [1, 5, 6, 7, 8, 10, 17, 23, 24, 25, 26, 27, 28, 29, 30, 31, 32, 33, 34, 100, 101, 102, 103, 129, 131, 146] ?_
              refine AWp.region ?_
              refine L.Y Y.mv ?_
              refine L.Y Y.mv ?_
              replace h := Option.bind_eq_some_iff.1 h
              obtain ⟨⟨t680, t683⟩, hc34, h⟩ := h
              dsimp only at h
              refine L.C (C.callE (l := false) [] Tryd.func24 (spec_OrdersOf.ac _ _ _ _ _ hc34) .nil ?_)
              refine L.Y Y.mv ?_
              refine L.Y Y.ex ?_
              refine L.Y Y.ex ?_
              refine L.Y Y.asg ?_
              refine L.Y Y.asg ?_
              refine AList.nil ?_
              refine AWp.seq ?_
              refine AWp.seq ?_
              refine W.kp [1, 5, 6, 7, 8, 10, 17, 23, 24, 25, 26, 27, 28, 29, 30, 31, 32, 33, 34, 35, 36, 100, 101, 102, 103, 129, 131, 146] ?_
              refine AWp.region ?_
              refine L.Y Y.mv ?_
              refine L.Y Y.mv ?_
              refine L.Y (Y.bb Tryd.underlying4) ?_
              refine L.Y Y.mv ?_
              refine L.Gc (fun hb => ?_) (fun hb => ?_)
              ·
               have hb35 := hb
               try simp only [hS, hE, ne_eq] at hb
               first | rw [if_pos hb35] at h | rw [if_neg (Bool.eq_false_iff.1 hb35)] at h | rw [if_pos hb] at h | rw [if_neg hb] at h | (simp only [hb, hT, reduceIte] at h) | skip
               exfalso
               revert h
               exact fun h => by cases k16 <;> simp [laws_FnNearestOrders.j4] at h
              ·
               have hb35 := hb
               try simp only [hS, hE, ne_eq] at hb
               first | rw [if_pos hb35] at h | rw [if_neg (Bool.eq_false_iff.1 hb35)] at h | rw [if_pos hb] at h | rw [if_neg hb] at h | (simp only [hb, hT, reduceIte] at h) | skip
               refine L.Gy hb35 Y.mv ?_
               refine L.Gy hb35 Y.mv ?_
               refine L.Gy hb35 Y.bin ?_
               refine L.Y (Y.pk (c := false) hb35) ?_
               refine L.Y Y.mv ?_
               refine L.Gc (fun hb => ?_) (fun hb => ?_)
               ·
                have hb36 := hb
                try simp only [hS, hE, ne_eq] at hb
                first | rw [if_pos hb36] at h | rw [if_neg (Bool.eq_false_iff.1 hb36)] at h | rw [if_pos hb] at h | rw [if_neg hb] at h | (simp only [hb, hT, reduceIte] at h) | skip
                exfalso
                revert h
                exact fun h => by cases k16 <;> simp [laws_FnNearestOrders.j4] at h
               ·
                have hb36 := hb
                try simp only [hS, hE, ne_eq] at hb
                first | rw [if_pos hb36] at h | rw [if_neg (Bool.eq_false_iff.1 hb36)] at h | rw [if_pos hb] at h | rw [if_neg hb] at h | (simp only [hb, hT, reduceIte] at h) | skip
                refine L.Gy hb36 Y.mv ?_
                refine L.Gy hb36 Y.mv ?_
                refine L.Gy hb36 (Y.bb Tryd.underlying4) ?_
                refine L.Y (Y.pk (c := false) hb36) ?_
                refine L.Y Y.mv ?_
                refine L.Gc (fun hb => ?_) (fun hb => ?_)
                ·
                 have hb37 := hb
                 try simp only [hS, hE, ne_eq] at hb
                 first | rw [if_pos hb37] at h | rw [if_neg (Bool.eq_false_iff.1 hb37)] at h | rw [if_pos hb] at h | rw [if_neg hb] at h | (simp only [hb, hT, reduceIte] at h) | skip
                 exfalso
                 revert h
                 exact fun h => by cases k16 <;> simp [laws_FnNearestOrders.j4] at h
                ·
                 have hb37 := hb
                 try simp only [hS, hE, ne_eq] at hb
                 first | rw [if_pos hb37] at h | rw [if_neg (Bool.eq_false_iff.1 hb37)] at h | rw [if_pos hb] at h | rw [if_neg hb] at h | (simp only [hb, hT, reduceIte] at h) | skip
                 refine L.Gy hb37 Y.mv ?_
                 refine L.Gy hb37 (Y.ln Tryd.underlying39) ?_
                 refine L.Gy hb37 Y.mv ?_
                 refine L.Gy hb37 (Y.ln Tryd.underlying39) ?_
                 refine L.Gy hb37 Y.bin ?_
                 refine L.Y (Y.pk (c := false) hb37) ?_
                 refine AList.nil ?_
                 rcases k16 with _ | k16
                 ·
                  exact absurd h (by simp [laws_FnNearestOrders.j4])
                 simp only [laws_FnNearestOrders.j4] at h
                 refine W.cond (fun hb => ?_) (fun hb => ?_)
                 ·
                  have hb38 := hb
                  try simp only [hS, hE, ne_eq] at hb
                  first | rw [if_pos hb38] at h | rw [if_neg (Bool.eq_false_iff.1 hb38)] at h | rw [if_pos hb] at h | rw [if_neg hb] at h | (simp only [hb, hT, reduceIte] at h) | skip
                  exfalso
                  revert h
                  exact fun h => by simp at h
                 ·
                  have hb38 := hb
                  try simp only [hS, hE, ne_eq] at hb
                  first | rw [if_pos hb38] at h | rw [if_neg (Bool.eq_false_iff.1 hb38)] at h | rw [if_pos hb] at h | rw [if_neg hb] at h | (simp only [hb, hT, reduceIte] at h) | skip
                  refine AWp.skip ?_
                  refine AWp.seq ?_
                  refine AWp.seq ?_
                  refine W.kp [1, 5, 6, 7, 8, 10, 17, 23, 24, 25, 26, 27, 28, 29, 30, 31, 32, 33, 34, 35, 36, 100, 101, 102, 103, 129, 131, 146, 200] ?_
                  refine AWp.region ?_
                  refine L.Y Y.mv ?_
                  refine L.Y (Y.ln Tryd.underlying39) ?_
                  refine L.Y Y.mv ?_
                  refine AList.nil ?_
                  refine AWp.block ?_
                  refine AWp.loopI (fun kk e H => kk ≤ k16 ∧ ∃ (x201 : List (S26)) (x35 : List (S26)) (x202 : Int) (x203 : Int) (x627000 : Int) (x634000 : Int) (x641000 : Int) (x669000 : Int) (x669001 : List Int) (x670000 : Int) (x670001 : List Int), e = [(5, .ptr 0 0), (7, .ptr 1 0), (10, .ptr 2 0), (25, .ptr 3 0), (26, .ptr 4 0), (33, .own 5 x201.length), (35, .own 6 x35.length), (201, .own 5 x201.length), (202, .lit (.int .i64 x202)), (203, .lit (.int .i64 x203))] ∧ H = [.bx 26 [.lit (.int .i64 x627000), .row 1 x627001.length false (ints .i64 x627001)], .bx 26 [.lit (.int .i64 x634000), .row 1 x634001.length false (ints .i64 x634001)], .bx 26 [.lit (.int .i64 x641000), .row 1 x641001.length false (ints .i64 x641001)], .bx 26 [.lit (.int .i64 x669000), .own 7 x669001.length], .bx 26 [.lit (.int .i64 x670000), .own 8 x670001.length], .sl 26 2 x201.length false (Enc.cells x201), .sl 26 2 x35.length false (Enc.cells x35), .sl 3 1 x669001.length false (ints .i64 x669001), .sl 3 1 x670001.length false (ints .i64 x670001)] ∧ laws_FnNearestOrders.l1 kk x201 x35 x201 x202 x203 = some true) (k := k16)
                   ⟨_, _, ⟨Nat.le_refl _, _, _, _, _, _, _, _, _, _, _, _, rfl, rfl, h⟩, IsPart.at [] [0, 1, 2, 7, 8, 9, 10, 5, 6] base0 (H.c (H.c (H.c (H.c (H.c (H.c (H.c (H.c (H.c .nil))))))))) (E.c (E.c (E.c (E.c (E.c (E.c (E.c (E.c (E.c (E.c .nil))))))))))⟩ ?_
                  clear h
                  rintro k39 e H ⟨hk40, x201, x35, x202, x203, x627000, x634000, x641000, x669000, x669001, x670000, x670001, rfl, rfl, h⟩
                  cases k39 with
                  | zero => exact absurd h (by simp [laws_FnNearestOrders.l1])
                  | succ k39 =>
                  simp only [laws_FnNearestOrders.l1] at h
                  refine AWp.seq ?_
                  refine AWp.region ?_
                  refine L.Y Y.bin ?_
                  refine AList.nil ?_
                  refine AWp.seq ?_
                  refine W.cond (fun hb => ?_) (fun hb => ?_)
                  ·
                   have hb41 := hb
                   try simp only [hS, hE, ne_eq] at hb
                   first | rw [if_pos hb41] at h | rw [if_neg (Bool.eq_false_iff.1 hb41)] at h | rw [if_pos hb] at h | rw [if_neg hb] at h | (simp only [hb, hT, reduceIte] at h) | skip
                   repeat (first | (rw [iN] at h; obtain ⟨_, h⟩ := h) | (rw [iP] at h; obtain ⟨_, h⟩ := h) | (simp only [bS] at h))
                   refine AWp.skip ?_
                   refine AWp.seq ?_
                   refine AWp.block ?_
                   refine AWp.seq ?_
                   refine AWp.region ?_
                   refine L.Y Y.mv ?_
                   refine L.Y (Y.ixo Tryd.underlying39 Y26) ?_
                   refine L.S (S.ldTN 2 Tryd.underlying26 Y26 en_T26) ?_
                   refine L.M (M.al Y26) ?_
                   refine L.Y Y.asg ?_
                   refine L.S (S.stb Y26) ?_
                   refine AList.nil ?_
                   refine AWp.seq ?_
                   refine Dt.reg [] [] (.t 0 (.y 1 (.y 2 (.y 3 (.t 4 (.one 5 (.y 6 (.y 7 (.y 8 (.y 9 (.y 10 (.y 11 (.y 12 (.y 13 (.y 14 (.y 15 (.t 16 (.y 17 (.t 18 (.one 19 (.y 20 (.y 21 (.y 22 .done))))))))))))))))))))))) HM ?_
                   refine Dt.T rfl wantN (D.ldN Tryd.underlying26 Y26) ?_
                   refine Dt.Y rfl wantN Y.mv ?_
                   refine Dt.Y rfl wantN Y.mv ?_
                   refine Dt.Y rfl wantN (Y.ixo Tryd.underlying39 Y26) ?_
                   refine Dt.T rfl wantN (D.ldTN 2 Tryd.underlying26 Y26 en_T26) ?_
                   refine Dt.O (g' := false) rfl wantN ?_
                   replace h := Option.bind_eq_some_iff.1 h
                   obtain ⟨t687, hc42, h⟩ := h
                   refine Ox.C true [] Tryd.func18 (laws_vOrder.ac _ _ _ _ _ _ hc42) .nil ?_
                   refine Dt.Y rfl wantN Y.nt ?_
                   refine Dt.Y rfl wantN Y.mv ?_
                   refine Dt.F 215 (fun hb => ?_) (fun hb => ?_)
                   ·
                    have hb43 := hb
                    try simp only [hS, hE, ne_eq] at hb
                    first | rw [if_pos hb43] at h | rw [if_neg (Bool.eq_false_iff.1 hb43)] at h | rw [if_pos hb] at h | rw [if_neg hb] at h | (simp only [hb, hT, reduceIte] at h) | skip
                    exfalso
                    revert h
                    exact fun h => by simp at h
                   ·
                    have hb43 := hb
                    try simp only [hS, hE, ne_eq] at hb
                    first | rw [if_pos hb43] at h | rw [if_neg (Bool.eq_false_iff.1 hb43)] at h | rw [if_pos hb] at h | rw [if_neg hb] at h | (simp only [hb, hT, reduceIte] at h) | skip
                    refine Dt.Y rfl (wantY hb43) Y.mv ?_
                    refine Dt.Y rfl (wantY hb43) Y.bin ?_
                    refine Dt.Y rfl (wantY hb43) Y.mv ?_
                    refine Dt.F 218 (fun hb => ?_) (fun hb => ?_)
                    ·
                     have hb44 := hb
                     try simp only [hS, hE, ne_eq] at hb
                     first | rw [if_pos hb44] at h | rw [if_neg (Bool.eq_false_iff.1 hb44)] at h | rw [if_pos hb] at h | rw [if_neg hb] at h | (simp only [hb, hT, reduceIte] at h) | skip
                     repeat (first | (rw [iN] at h; obtain ⟨_, h⟩ := h) | (rw [iP] at h; obtain ⟨_, h⟩ := h) | (simp only [bS] at h))
                     refine Dt.Y rfl (wantY hb44) Y.mv ?_
                     refine Dt.Y rfl (wantY hb44) Y.mv ?_
                     refine Dt.Y rfl (wantY hb44) Y.bin ?_
                     refine Dt.Y rfl (wantY hb44) (Y.ixo Tryd.underlying39 Y26) ?_
                     refine Dt.Y rfl (wantY hb44) (Y.fa (off := 1) Tryd.underlying26 Y22) ?_
                     refine Dt.T rfl (wantY hb44) (D.ldT 2 1 Tryd.underlying22 en_T26) ?_
                     refine Dt.Y rfl (wantY hb44) (Y.fa (off := 1) Tryd.underlying26 Y22) ?_
                     refine Dt.T rfl (wantY hb44) (D.ld Tryd.underlying22) ?_
                     refine Dt.O (g' := false) rfl (wantY hb44) ?_
                     replace h := Option.bind_eq_some_iff.1 h
                     obtain ⟨t689, hc45, h⟩ := h
                     refine Ox.C true [] Tryd.func25 (laws_vLess.ac _ _ _ _ hc45) .nil ?_
                     refine Dt.Y rfl (wantY hb44) Y.nt ?_
                     refine Dt.Y rfl (wantY hb43) (Y.pk (c := true) hb44) ?_
                     refine Dt.Y rfl wantN (Y.pk (c := false) hb43) ?_
                     refine Dt.nil ?_
                     refine W.cond (fun hb => ?_) (fun hb => ?_)
                     ·
                      have hb46 := hb
                      try simp only [hS, hE, ne_eq] at hb
                      first | rw [if_pos hb46] at h | rw [if_neg (Bool.eq_false_iff.1 hb46)] at h | rw [if_pos hb] at h | rw [if_neg hb] at h | (simp only [hb, hT, reduceIte] at h) | skip
                      exfalso
                      revert h
                      exact fun h => by simp at h
                     ·
                      have hb46 := hb
                      try simp only [hS, hE, ne_eq] at hb
                      first | rw [if_pos hb46] at h | rw [if_neg (Bool.eq_false_iff.1 hb46)] at h | rw [if_pos hb] at h | rw [if_neg hb] at h | (simp only [hb, hT, reduceIte] at h) | skip
                      refine AWp.skip ?_
                      refine W.kp [5, 7, 10, 25, 26, 33, 35, 37, 38, 201, 202, 203, 204, 230] ?_
                      refine AWp.region ?_
                      refine L.Y Y.bin ?_
                      refine L.Y Y.mv ?_
                      refine AList.nil ?_
                      exact ⟨k39, by omega, _, _, ⟨by omega, _, _, _, _, _, _, _, _, _, _, _, rfl, rfl, h⟩, IsPart.at [] [0, 1, 2, 3, 4, 5, 6, 7, 8] base0 (H.c (H.c (H.c (H.c (H.c (H.c (H.c (H.c (H.c .nil))))))))) (E.c (E.c (E.c (E.c (E.c (E.c (E.c (E.c (E.c (E.c .nil))))))))))⟩
                    ·
                     have hb44 := hb
                     try simp only [hS, hE, ne_eq] at hb
                     first | rw [if_pos hb44] at h | rw [if_neg (Bool.eq_false_iff.1 hb44)] at h | rw [if_pos hb] at h | rw [if_neg hb] at h | (simp only [hb, hT, reduceIte] at h) | skip
                     refine Dt.No rfl (wantZ hb44) ?_
                     refine Dt.No rfl (wantZ hb44) ?_
                     refine Dt.No rfl (wantZ hb44) ?_
                     refine Dt.No rfl (wantZ hb44) ?_
                     refine Dt.No rfl (wantZ hb44) ?_
                     refine Dt.Nt rfl (wantZ hb44) ?_
                     refine Dt.No rfl (wantZ hb44) ?_
                     refine Dt.Nt rfl (wantZ hb44) ?_
                     refine Dt.Po rfl (wantZ hb44) ?_
                     refine Dt.No rfl (wantZ hb44) ?_
                     refine Dt.Y rfl (wantY hb43) (Y.pk (c := false) hb44) ?_
                     refine Dt.Y rfl wantN (Y.pk (c := false) hb43) ?_
                     refine Dt.nil ?_
                     refine W.cond (fun hb => ?_) (fun hb => ?_)
                     ·
                      first | exact Bool.false_ne_true ((Eq.symm (by assumption)).trans hb) | exact Bool.false_ne_true (hb.symm.trans (by assumption)) | exact DD hb
                     have hb47 := hb
                     refine AWp.skip ?_
                     refine W.kp [5, 7, 10, 25, 26, 33, 35, 37, 38, 201, 202, 203, 204, 230] ?_
                     refine AWp.region ?_
                     refine L.Y Y.bin ?_
                     refine L.Y Y.mv ?_
                     refine AList.nil ?_
                     exact ⟨k39, by omega, _, _, ⟨by omega, _, _, _, _, _, _, _, _, _, _, _, rfl, rfl, h⟩, IsPart.at [] [0, 1, 2, 3, 4, 5, 6, 7, 8] base0 (H.c (H.c (H.c (H.c (H.c (H.c (H.c (H.c (H.c .nil))))))))) (E.c (E.c (E.c (E.c (E.c (E.c (E.c (E.c (E.c (E.c .nil))))))))))⟩
                  ·
                   have hb41 := hb
                   try simp only [hS, hE, ne_eq] at hb
                   first | rw [if_pos hb41] at h | rw [if_neg (Bool.eq_false_iff.1 hb41)] at h | rw [if_pos hb] at h | rw [if_neg hb] at h | (simp only [hb, hT, reduceIte] at h) | skip
                   refine AWp.exit ?_
                   refine AWp.seq ?_
                   refine AWp.region ?_
                   refine L.Y Y.asg ?_
                   refine AList.nil ?_
                   refine AWp.ret ?_
                   first | (exfalso; cases h; done) | exact ⟨.inr rfl, [(4, _)], _, ⟨rfl, rfl⟩, IsPart.at [] [] base0 .nil (E.c .nil (hs := Sub.litE (LV h)))⟩
           ·
            have hb25 := hb
            try simp only [hS, hE, ne_eq] at hb
            first | rw [if_pos hb25] at h | rw [if_neg (Bool.eq_false_iff.1 hb25)] at h | rw [if_pos hb] at h | rw [if_neg hb] at h | (simp only [hb, hT, reduceIte] at h) | skip
            refine AWp.skip ?_
            refine AWp.seq ?_
            refine W.kp [1, 5, 6, 7, 8, 10, 17, 100, 101, 102, 103, 129, 131] ?_
            refine AWp.region ?_
            refine L.Y Y.mv ?_
            rcases k16 with _ | k16
            ·
             exact absurd h (by simp [laws_FnNearestOrders.j3])
            simp only [laws_FnNearestOrders.j3] at h
            replace h := Option.bind_eq_some_iff.1 h
            obtain ⟨⟨t660, t661, t664, t665⟩, hc48, h⟩ := h
            dsimp only at h
            refine L.C (C.callE (l := true) [] Tryd.func21 (spec_DrawPairsApart.ac _ _ _ _ _ _ hc48) .nil ?_)
            refine L.Y Y.mv ?_
            refine L.Y Y.ex ?_
            refine L.Y Y.ex ?_
            refine L.M (M.al Y26) ?_
            refine L.M (M.al Y26) ?_
            refine L.S (S.stb Y26) ?_
            refine L.S (S.stb Y26) ?_
            refine AList.nil ?_
            refine AWp.seq ?_
            refine W.kp [1, 5, 6, 7, 8, 10, 17, 25, 26, 100, 101, 102, 103, 129, 131] ?_
            refine AWp.region ?_
            refine L.S (S.ldN Tryd.underlying26 Y26) ?_
            refine L.S (S.ldN Tryd.underlying26 Y26) ?_
            replace h := Option.bind_eq_some_iff.1 h
            obtain ⟨⟨t670, t671⟩, hc49, h⟩ := h
            dsimp only at h
            refine L.C (C.callE (l := true) [] Tryd.func19 (impl_PairsApart.ac _ _ _ _ _ _ _ hc49) .nil ?_)
            refine L.Y Y.mv ?_
            refine L.Y Y.ex ?_
            refine L.Y Y.ex ?_
            refine L.Y Y.asg ?_
            refine L.Y Y.asg ?_
            refine AList.nil ?_
            refine AWp.seq ?_
            refine W.kp [1, 5, 6, 7, 8, 10, 17, 25, 26, 27, 28, 100, 101, 102, 103, 129, 131] ?_
            refine AWp.region ?_
            refine L.S (S.ldN Tryd.underlying26 Y26) ?_
            refine L.S (S.ldN Tryd.underlying26 Y26) ?_
            replace h := Option.bind_eq_some_iff.1 h
            obtain ⟨⟨t672, t673⟩, hc50, h⟩ := h
            dsimp only at h
            refine L.C (C.callE (l := true) [] Tryd.func22 (spec_PairsApart.ac _ _ _ _ _ _ _ hc50) .nil ?_)
            refine L.Y Y.mv ?_
            refine L.Y Y.ex ?_
            refine L.Y Y.ex ?_
            refine L.Y Y.asg ?_
            refine L.Y Y.asg ?_
            refine AList.nil ?_
            refine AWp.seq ?_
            refine W.kp [1, 5, 6, 7, 8, 10, 17, 25, 26, 27, 28, 29, 30, 100, 101, 102, 103, 129, 131] ?_
            refine AWp.region ?_
            refine L.Y Y.mv ?_
            replace h := Option.bind_eq_some_iff.1 h
            obtain ⟨⟨t674, t675⟩, hc51, h⟩ := h
            dsimp only at h
            refine L.C (C.callE (l := true) [] Tryd.func23 (spec_DrawOrdersOf.ac _ _ _ hc51) .nil ?_)
            refine L.Y Y.mv ?_
            refine L.Y Y.ex ?_
            refine L.Y Y.ex ?_
            refine L.Y Y.asg ?_
            refine L.Y Y.asg ?_
            refine AList.nil ?_
            refine AWp.seq ?_
            refine W.kp [1, 5, 6, 7, 8, 10, 17, 25, 26, 27, 28, 29, 30, 31, 32, 100, 101, 102, 103, 129, 131] ?_
            refine AWp.region ?_
            refine L.Y Y.mv ?_
            refine L.Y Y.mv ?_
            replace h := Option.bind_eq_some_iff.1 h
            obtain ⟨⟨t676, t677⟩, hc52, h⟩ := h
            dsimp only at h
            refine L.C (C.callE (l := false) [] Tryd.func20 (impl_OrdersOf.ac _ _ _ _ _ hc52) .nil ?_)
            refine L.Y Y.mv ?_
            refine L.Y Y.ex ?_
            refine L.Y Y.ex ?_
            refine L.Y Y.asg ?_
            refine L.Y Y.asg ?_
            refine AList.nil ?_
            refine AWp.seq ?_
            refine W.kp [1, 5, 6, 7, 8, 10, 17, 25, 26, 27, 28, 29, 30, 31, 32, 33, 34, 100, 101, 102, 103, 129, 131] ?_
            refine AWp.region ?_
            refine L.Y Y.mv ?_
            refine L.Y Y.mv ?_
            replace h := Option.bind_eq_some_iff.1 h
            obtain ⟨⟨t680, t683⟩, hc53, h⟩ := h
            dsimp only at h
            refine L.C (C.callE (l := false) [] Tryd.func24 (spec_OrdersOf.ac _ _ _ _ _ hc53) .nil ?_)
            refine L.Y Y.mv ?_
            refine L.Y Y.ex ?_
            refine L.Y Y.ex ?_
            refine L.Y Y.asg ?_
            refine L.Y Y.asg ?_
            refine AList.nil ?_
            refine AWp.seq ?_
            refine AWp.seq ?_
            refine W.kp [1, 5, 6, 7, 8, 10, 17, 25, 26, 27, 28, 29, 30, 31, 32, 33, 34, 35, 36, 100, 101, 102, 103, 129, 131] ?_
            refine AWp.region ?_
            refine L.Y Y.mv ?_
            refine L.Y Y.mv ?_
            refine L.Y (Y.bb Tryd.underlying4) ?_
            refine L.Y Y.mv ?_
            refine L.Gc (fun hb => ?_) (fun hb => ?_)
            ·
             have hb54 := hb
             try simp only [hS, hE, ne_eq] at hb
             first | rw [if_pos hb54] at h | rw [if_neg (Bool.eq_false_iff.1 hb54)] at h | rw [if_pos hb] at h | rw [if_neg hb] at h | (simp only [hb, hT, reduceIte] at h) | skip
             exfalso
             revert h
             exact fun h => by cases k16 <;> simp [laws_FnNearestOrders.j4] at h
            ·
             have hb54 := hb
             try simp only [hS, hE, ne_eq] at hb
             first | rw [if_pos hb54] at h | rw [if_neg (Bool.eq_false_iff.1 hb54)] at h | rw [if_pos hb] at h | rw [if_neg hb] at h | (simp only [hb, hT, reduceIte] at h) | skip
             refine L.Gy hb54 Y.mv ?_
             refine L.Gy hb54 Y.mv ?_
             refine L.Gy hb54 Y.bin ?_
             refine L.Y (Y.pk (c := false) hb54) ?_
             refine L.Y Y.mv ?_
             refine L.Gc (fun hb => ?_) (fun hb => ?_)
             ·
              have hb55 := hb
              try simp only [hS, hE, ne_eq] at hb
              first | rw [if_pos hb55] at h | rw [if_neg (Bool.eq_false_iff.1 hb55)] at h | rw [if_pos hb] at h | rw [if_neg hb] at h | (simp only [hb, hT, reduceIte] at h) | skip
              exfalso
              revert h
              exact fun h => by cases k16 <;> simp [laws_FnNearestOrders.j4] at h
             ·
              have hb55 := hb
              try simp only [hS, hE, ne_eq] at hb
              first | rw [if_pos hb55] at h | rw [if_neg (Bool.eq_false_iff.1 hb55)] at h | rw [if_pos hb] at h | rw [if_neg hb] at h | (simp only [hb, hT, reduceIte] at h) | skip
              refine L.Gy hb55 Y.mv ?_
              refine L.Gy hb55 Y.mv ?_
              refine L.Gy hb55 (Y.bb Tryd.underlying4) ?_
              refine L.Y (Y.pk (c := false) hb55) ?_
              refine L.Y Y.mv ?_
              refine L.Gc (fun hb => ?_) (fun hb => ?_)
              ·
               have hb56 := hb
               try simp only [hS, hE, ne_eq] at hb
               first | rw [if_pos hb56] at h | rw [if_neg (Bool.eq_false_iff.1 hb56)] at h | rw [if_pos hb] at h | rw [if_neg hb] at h | (simp only [hb, hT, reduceIte] at h) | skip
               exfalso
               revert h
               exact fun h => by cases k16 <;> simp [laws_FnNearestOrders.j4] at h
              ·
               have hb56 := hb
               try simp only [hS, hE, ne_eq] at hb
               first | rw [if_pos hb56] at h | rw [if_neg (Bool.eq_false_iff.1 hb56)] at h | rw [if_pos hb] at h | rw [if_neg hb] at h | (simp only [hb, hT, reduceIte] at h) | skip
               refine L.Gy hb56 Y.mv ?_
               refine L.Gy hb56 (Y.ln Tryd.underlying39) ?_
               refine L.Gy hb56 Y.mv ?_
               refine L.Gy hb56 (Y.ln Tryd.underlying39) ?_
               refine L.Gy hb56 Y.bin ?_
               refine L.Y (Y.pk (c := false) hb56) ?_
               refine AList.nil ?_
               rcases k16 with _ | k16
               ·
                exact absurd h (by simp [laws_FnNearestOrders.j4])
               simp only [laws_FnNearestOrders.j4] at h
               refine W.cond (fun hb => ?_) (fun hb => ?_)
               ·
                have hb57 := hb
                try simp only [hS, hE, ne_eq] at hb
                first | rw [if_pos hb57] at h | rw [if_neg (Bool.eq_false_iff.1 hb57)] at h | rw [if_pos hb] at h | rw [if_neg hb] at h | (simp only [hb, hT, reduceIte] at h) | skip
                exfalso
                revert h
                exact fun h => by simp at h
               ·
                have hb57 := hb
                try simp only [hS, hE, ne_eq] at hb
                first | rw [if_pos hb57] at h | rw [if_neg (Bool.eq_false_iff.1 hb57)] at h | rw [if_pos hb] at h | rw [if_neg hb] at h | (simp only [hb, hT, reduceIte] at h) | skip
                refine AWp.skip ?_
                refine AWp.seq ?_
                refine AWp.seq ?_
                refine W.kp [1, 5, 6, 7, 8, 10, 17, 25, 26, 27, 28, 29, 30, 31, 32, 33, 34, 35, 36, 100, 101, 102, 103, 129, 131, 200] ?_
                refine AWp.region ?_
                refine L.Y Y.mv ?_
                refine L.Y (Y.ln Tryd.underlying39) ?_
                refine L.Y Y.mv ?_
                refine AList.nil ?_
                refine AWp.block ?_
                refine AWp.loopI (fun kk e H => kk ≤ k16 ∧ ∃ (x201 : List (S26)) (x35 : List (S26)) (x202 : Int) (x203 : Int) (x627000 : Int) (x634000 : Int) (x641000 : Int) (x669000 : Int) (x669001 : List Int) (x670000 : Int) (x670001 : List Int), e = [(5, .ptr 0 0), (7, .ptr 1 0), (10, .ptr 2 0), (25, .ptr 3 0), (26, .ptr 4 0), (33, .own 5 x201.length), (35, .own 6 x35.length), (201, .own 5 x201.length), (202, .lit (.int .i64 x202)), (203, .lit (.int .i64 x203))] ∧ H = [.bx 26 [.lit (.int .i64 x627000), .row 1 x627001.length false (ints .i64 x627001)], .bx 26 [.lit (.int .i64 x634000), .row 1 x634001.length false (ints .i64 x634001)], .bx 26 [.lit (.int .i64 x641000), .row 1 x641001.length false (ints .i64 x641001)], .bx 26 [.lit (.int .i64 x669000), .own 7 x669001.length], .bx 26 [.lit (.int .i64 x670000), .own 8 x670001.length], .sl 26 2 x201.length false (Enc.cells x201), .sl 26 2 x35.length false (Enc.cells x35), .sl 3 1 x669001.length false (ints .i64 x669001), .sl 3 1 x670001.length false (ints .i64 x670001)] ∧ laws_FnNearestOrders.l1 kk x201 x35 x201 x202 x203 = some true) (k := k16)
                 ⟨_, _, ⟨Nat.le_refl _, _, _, _, _, _, _, _, _, _, _, _, rfl, rfl, h⟩, IsPart.at [] [0, 1, 2, 6, 7, 8, 9, 4, 5] base0 (H.c (H.c (H.c (H.c (H.c (H.c (H.c (H.c (H.c .nil))))))))) (E.c (E.c (E.c (E.c (E.c (E.c (E.c (E.c (E.c (E.c .nil))))))))))⟩ ?_
                clear h
                rintro k58 e H ⟨hk59, x201, x35, x202, x203, x627000, x634000, x641000, x669000, x669001, x670000, x670001, rfl, rfl, h⟩
                cases k58 with
                | zero => exact absurd h (by simp [laws_FnNearestOrders.l1])
                | succ k58 =>
                simp only [laws_FnNearestOrders.l1] at h
                refine AWp.seq ?_
                refine AWp.region ?_
                refine L.Y Y.bin ?_
                refine AList.nil ?_
                refine AWp.seq ?_
                refine W.cond (fun hb => ?_) (fun hb => ?_)
                ·
                 have hb60 := hb
                 try simp only [hS, hE, ne_eq] at hb
                 first | rw [if_pos hb60] at h | rw [if_neg (Bool.eq_false_iff.1 hb60)] at h | rw [if_pos hb] at h | rw [if_neg hb] at h | (simp only [hb, hT, reduceIte] at h) | skip
                 repeat (first | (rw [iN] at h; obtain ⟨_, h⟩ := h) | (rw [iP] at h; obtain ⟨_, h⟩ := h) | (simp only [bS] at h))
                 refine AWp.skip ?_
                 refine AWp.seq ?_
                 refine AWp.block ?_
                 refine AWp.seq ?_
                 refine AWp.region ?_
                 refine L.Y Y.mv ?_
                 refine L.Y (Y.ixo Tryd.underlying39 Y26) ?_
                 refine L.S (S.ldTN 2 Tryd.underlying26 Y26 en_T26) ?_
                 refine L.M (M.al Y26) ?_
                 refine L.Y Y.asg ?_
                 refine L.S (S.stb Y26) ?_
                 refine AList.nil ?_
                 refine AWp.seq ?_
                 refine Dt.reg [] [] (.t 0 (.y 1 (.y 2 (.y 3 (.t 4 (.one 5 (.y 6 (.y 7 (.y 8 (.y 9 (.y 10 (.y 11 (.y 12 (.y 13 (.y 14 (.y 15 (.t 16 (.y 17 (.t 18 (.one 19 (.y 20 (.y 21 (.y 22 .done))))))))))))))))))))))) HM ?_
                 refine Dt.T rfl wantN (D.ldN Tryd.underlying26 Y26) ?_
                 refine Dt.Y rfl wantN Y.mv ?_
                 refine Dt.Y rfl wantN Y.mv ?_
                 refine Dt.Y rfl wantN (Y.ixo Tryd.underlying39 Y26) ?_
                 refine Dt.T rfl wantN (D.ldTN 2 Tryd.underlying26 Y26 en_T26) ?_
                 refine Dt.O (g' := false) rfl wantN ?_
                 replace h := Option.bind_eq_some_iff.1 h
                 obtain ⟨t687, hc61, h⟩ := h
                 refine Ox.C true [] Tryd.func18 (laws_vOrder.ac _ _ _ _ _ _ hc61) .nil ?_
                 refine Dt.Y rfl wantN Y.nt ?_
                 refine Dt.Y rfl wantN Y.mv ?_
                 refine Dt.F 215 (fun hb => ?_) (fun hb => ?_)
                 ·
                  have hb62 := hb
                  try simp only [hS, hE, ne_eq] at hb
                  first | rw [if_pos hb62] at h | rw [if_neg (Bool.eq_false_iff.1 hb62)] at h | rw [if_pos hb] at h | rw [if_neg hb] at h | (simp only [hb, hT, reduceIte] at h) | skip
                  exfalso
                  revert h
                  exact fun h => by simp at h
                 ·
                  have hb62 := hb
                  try simp only [hS, hE, ne_eq] at hb
                  first | rw [if_pos hb62] at h | rw [if_neg (Bool.eq_false_iff.1 hb62)] at h | rw [if_pos hb] at h | rw [if_neg hb] at h | (simp only [hb, hT, reduceIte] at h) | skip
                  refine Dt.Y rfl (wantY hb62) Y.mv ?_
                  refine Dt.Y rfl (wantY hb62) Y.bin ?_
                  refine Dt.Y rfl (wantY hb62) Y.mv ?_
                  refine Dt.F 218 (fun hb => ?_) (fun hb => ?_)
                  ·
                   have hb63 := hb
                   try simp only [hS, hE, ne_eq] at hb
                   first | rw [if_pos hb63] at h | rw [if_neg (Bool.eq_false_iff.1 hb63)] at h | rw [if_pos hb] at h | rw [if_neg hb] at h | (simp only [hb, hT, reduceIte] at h) | skip
                   repeat (first | (rw [iN] at h; obtain ⟨_, h⟩ := h) | (rw [iP] at h; obtain ⟨_, h⟩ := h) | (simp only [bS] at h))
                   refine Dt.Y rfl (wantY hb63) Y.mv ?_
                   refine Dt.Y rfl (wantY hb63) Y.mv ?_
                   refine Dt.Y rfl (wantY hb63) Y.bin ?_
                   refine Dt.Y rfl (wantY hb63) (Y.ixo Tryd.underlying39 Y26) ?_
                   refine Dt.Y rfl (wantY hb63) (Y.fa (off := 1) Tryd.underlying26 Y22) ?_
                   refine Dt.T rfl (wantY hb63) (D.ldT 2 1 Tryd.underlying22 en_T26) ?_
                   refine Dt.Y rfl (wantY hb63) (Y.fa (off := 1) Tryd.underlying26 Y22) ?_
                   refine Dt.T rfl (wantY hb63) (D.ld Tryd.underlying22) ?_
                   refine Dt.O (g' := false) rfl (wantY hb63) ?_
                   replace h := Option.bind_eq_some_iff.1 h
                   obtain ⟨t689, hc64, h⟩ := h
                   refine Ox.C true [] Tryd.func25 (laws_vLess.ac _ _ _ _ hc64) .nil ?_
                   refine Dt.Y rfl (wantY hb63) Y.nt ?_
                   refine Dt.Y rfl (wantY hb62) (Y.pk (c := true) hb63) ?_
                   refine Dt.Y rfl wantN (Y.pk (c := false) hb62) ?_
                   refine Dt.nil ?_
                   refine W.cond (fun hb => ?_) (fun hb => ?_)
                   ·
                    have hb65 := hb
                    try simp only [hS, hE, ne_eq] at hb
                    first | rw [if_pos hb65] at h | rw [if_neg (Bool.eq_false_iff.1 hb65)] at h | rw [if_pos hb] at h | rw [if_neg hb] at h | (simp only [hb, hT, reduceIte] at h) | skip
                    exfalso
                    revert h
                    exact fun h => by simp at h
                   ·
                    have hb65 := hb
                    try simp only [hS, hE, ne_eq] at hb
                    first | rw [if_pos hb65] at h | rw [if_neg (Bool.eq_false_iff.1 hb65)] at h | rw [if_pos hb] at h | rw [if_neg hb] at h | (simp only [hb, hT, reduceIte] at h) | skip
                    refine AWp.skip ?_
                    refine W.kp [5, 7, 10, 25, 26, 33, 35, 37, 38, 201, 202, 203, 204, 230] ?_
                    refine AWp.region ?_
                    refine L.Y Y.bin ?_
                    refine L.Y Y.mv ?_
                    refine AList.nil ?_
                    exact ⟨k58, by omega, _, _, ⟨by omega, _, _, _, _, _, _, _, _, _, _, _, rfl, rfl, h⟩, IsPart.at [] [0, 1, 2, 3, 4, 5, 6, 7, 8] base0 (H.c (H.c (H.c (H.c (H.c (H.c (H.c (H.c (H.c .nil))))))))) (E.c (E.c (E.c (E.c (E.c (E.c (E.c (E.c (E.c (E.c .nil))))))))))⟩
                  ·
                   have hb63 := hb
                   try simp only [hS, hE, ne_eq] at hb
                   first | rw [if_pos hb63] at h | rw [if_neg (Bool.eq_false_iff.1 hb63)] at h | rw [if_pos hb] at h | rw [if_neg hb] at h | (simp only [hb, hT, reduceIte] at h) | skip
                   refine Dt.No rfl (wantZ hb63) ?_
                   refine Dt.No rfl (wantZ hb63) ?_
                   refine Dt.No rfl (wantZ hb63) ?_
                   refine Dt.No rfl (wantZ hb63) ?_
                   refine Dt.No rfl (wantZ hb63) ?_
                   refine Dt.Nt rfl (wantZ hb63) ?_
                   refine Dt.No rfl (wantZ hb63) ?_
                   refine Dt.Nt rfl (wantZ hb63) ?_
                   refine Dt.Po rfl (wantZ hb63) ?_
                   refine Dt.No rfl (wantZ hb63) ?_
                   refine Dt.Y rfl (wantY hb62) (Y.pk (c := false) hb63) ?_
                   refine Dt.Y rfl wantN (Y.pk (c := false) hb62) ?_
                   refine Dt.nil ?_
                   refine W.cond (fun hb => ?_) (fun hb => ?_)
                   ·
                    first | exact Bool.false_ne_true ((Eq.symm (by assumption)).trans hb) | exact Bool.false_ne_true (hb.symm.trans (by assumption)) | exact DD hb
                   have hb66 := hb
                   refine AWp.skip ?_
                   refine W.kp [5, 7, 10, 25, 26, 33, 35, 37, 38, 201, 202, 203, 204, 230] ?_
                   refine AWp.region ?_
                   refine L.Y Y.bin ?_
                   refine L.Y Y.mv ?_
                   refine AList.nil ?_
                   exact ⟨k58, by omega, _, _, ⟨by omega, _, _, _, _, _, _, _, _, _, _, _, rfl, rfl, h⟩, IsPart.at [] [0, 1, 2, 3, 4, 5, 6, 7, 8] base0 (H.c (H.c (H.c (H.c (H.c (H.c (H.c (H.c (H.c .nil))))))))) (E.c (E.c (E.c (E.c (E.c (E.c (E.c (E.c (E.c (E.c .nil))))))))))⟩
                ·
                 have hb60 := hb
                 try simp only [hS, hE, ne_eq] at hb
                 first | rw [if_pos hb60] at h | rw [if_neg (Bool.eq_false_iff.1 hb60)] at h | rw [if_pos hb] at h | rw [if_neg hb] at h | (simp only [hb, hT, reduceIte] at h) | skip
                 refine AWp.exit ?_
                 refine AWp.seq ?_
                 refine AWp.region ?_
                 refine L.Y Y.asg ?_
                 refine AList.nil ?_
                 refine AWp.ret ?_
                 first | (exfalso; cases h; done) | exact ⟨.inr rfl, [(4, _)], _, ⟨rfl, rfl⟩, IsPart.at [] [] base0 .nil (E.c .nil (hs := Sub.litE (LV h)))⟩
     ·
      have hb10 := hb
      try simp only [hS, hE, ne_eq] at hb
      first | rw [if_pos hb10] at h | rw [if_neg (Bool.eq_false_iff.1 hb10)] at h | rw [if_pos hb] at h | rw [if_neg hb] at h | (simp only [hb, hT, reduceIte] at h) | skip
      refine AWp.skip ?_
      refine AWp.seq ?_
      refine AWp.region ?_
      refine L.Y Y.mv ?_
      rcases k with _ | k
      ·
       exact absurd h (by simp [laws_FnNearestOrders.j3])
      simp only [laws_FnNearestOrders.j3] at h
      replace h := Option.bind_eq_some_iff.1 h
      obtain ⟨⟨t660, t661, t664, t665⟩, hc67, h⟩ := h
      dsimp only at h
      refine L.C (C.callE (l := true) [] Tryd.func21 (spec_DrawPairsApart.ac _ _ _ _ _ _ hc67) .nil ?_)
      refine L.Y Y.mv ?_
      refine L.Y Y.ex ?_
      refine L.Y Y.ex ?_
      refine L.M (M.al Y26) ?_
      refine L.M (M.al Y26) ?_
      refine L.S (S.stb Y26) ?_
      refine L.S (S.stb Y26) ?_
      refine AList.nil ?_
      refine AWp.seq ?_
      refine W.kp [0, 1, 4, 5, 6, 7, 8, 9, 10, 11, 12, 25, 26, 41, 74, 75] ?_
      refine AWp.region ?_
      refine L.S (S.ldN Tryd.underlying26 Y26) ?_
      refine L.S (S.ldN Tryd.underlying26 Y26) ?_
      replace h := Option.bind_eq_some_iff.1 h
      obtain ⟨⟨t670, t671⟩, hc68, h⟩ := h
      dsimp only at h
      refine L.C (C.callE (l := true) [] Tryd.func19 (impl_PairsApart.ac _ _ _ _ _ _ _ hc68) .nil ?_)
      refine L.Y Y.mv ?_
      refine L.Y Y.ex ?_
      refine L.Y Y.ex ?_
      refine L.Y Y.asg ?_
      refine L.Y Y.asg ?_
      refine AList.nil ?_
      refine AWp.seq ?_
      refine W.kp [0, 1, 4, 5, 6, 7, 8, 9, 10, 11, 12, 25, 26, 27, 28, 41, 74, 75] ?_
      refine AWp.region ?_
      refine L.S (S.ldN Tryd.underlying26 Y26) ?_
      refine L.S (S.ldN Tryd.underlying26 Y26) ?_
      replace h := Option.bind_eq_some_iff.1 h
      obtain ⟨⟨t672, t673⟩, hc69, h⟩ := h
      dsimp only at h
      refine L.C (C.callE (l := true) [] Tryd.func22 (spec_PairsApart.ac _ _ _ _ _ _ _ hc69) .nil ?_)
      refine L.Y Y.mv ?_
      refine L.Y Y.ex ?_
      refine L.Y Y.ex ?_
      refine L.Y Y.asg ?_
      refine L.Y Y.asg ?_
      refine AList.nil ?_
      refine AWp.seq ?_
      refine W.kp [0, 1, 4, 5, 6, 7, 8, 9, 10, 11, 12, 25, 26, 27, 28, 29, 30, 41, 74, 75] ?_
      refine AWp.region ?_
      refine L.Y Y.mv ?_
      replace h := Option.bind_eq_some_iff.1 h
      obtain ⟨⟨t674, t675⟩, hc70, h⟩ := h
      dsimp only at h
      refine L.C (C.callE (l := true) [] Tryd.func23 (spec_DrawOrdersOf.ac _ _ _ hc70) .nil ?_)
      refine L.Y Y.mv ?_
      refine L.Y Y.ex ?_
      refine L.Y Y.ex ?_
      refine L.Y Y.asg ?_
      refine L.Y Y.asg ?_
      refine AList.nil ?_
      refine AWp.seq ?_
      refine W.kp [0, 1, 4, 5, 6, 7, 8, 9, 10, 11, 12, 25, 26, 27, 28, 29, 30, 31, 32, 41, 74, 75] ?_
      refine AWp.region ?_
      refine L.Y Y.mv ?_
      refine L.Y Y.mv ?_
      replace h := Option.bind_eq_some_iff.1 h
      obtain ⟨⟨t676, t677⟩, hc71, h⟩ := h
      dsimp only at h
      refine L.C (C.callE (l := false) [] Tryd.func20 (impl_OrdersOf.ac _ _ _ _ _ hc71) .nil ?_)
      refine L.Y Y.mv ?_
      refine L.Y Y.ex ?_
      refine L.Y Y.ex ?_
      refine L.Y Y.asg ?_
      refine L.Y Y.asg ?_
      refine AList.nil ?_
      refine AWp.seq ?_
      refine W.kp [0, 1, 4, 5, 6, 7, 8, 9, 10, 11, 12, 25, 26, 27, 28, 29, 30, 31, 32, 33, 34, 41, 74, 75] ?_
      refine AWp.region ?_
      refine L.Y Y.mv ?_
      refine L.Y Y.mv ?_
      replace h := Option.bind_eq_some_iff.1 h
      obtain ⟨⟨t680, t683⟩, hc72, h⟩ := h
      dsimp only at h
      refine L.C (C.callE (l := false) [] Tryd.func24 (spec_OrdersOf.ac _ _ _ _ _ hc72) .nil ?_)
      refine L.Y Y.mv ?_
      refine L.Y Y.ex ?_
      refine L.Y Y.ex ?_
      refine L.Y Y.asg ?_
      refine L.Y Y.asg ?_
      refine AList.nil ?_
      refine AWp.seq ?_
      refine AWp.seq ?_
      refine W.kp [0, 1, 4, 5, 6, 7, 8, 9, 10, 11, 12, 25, 26, 27, 28, 29, 30, 31, 32, 33, 34, 35, 36, 41, 74, 75] ?_
      refine AWp.region ?_
      refine L.Y Y.mv ?_
      refine L.Y Y.mv ?_
      refine L.Y (Y.bb Tryd.underlying4) ?_
      refine L.Y Y.mv ?_
      refine L.Gc (fun hb => ?_) (fun hb => ?_)
      ·
       have hb73 := hb
       try simp only [hS, hE, ne_eq] at hb
       first | rw [if_pos hb73] at h | rw [if_neg (Bool.eq_false_iff.1 hb73)] at h | rw [if_pos hb] at h | rw [if_neg hb] at h | (simp only [hb, hT, reduceIte] at h) | skip
       exfalso
       revert h
       exact fun h => by cases k <;> simp [laws_FnNearestOrders.j4] at h
      ·
       have hb73 := hb
       try simp only [hS, hE, ne_eq] at hb
       first | rw [if_pos hb73] at h | rw [if_neg (Bool.eq_false_iff.1 hb73)] at h | rw [if_pos hb] at h | rw [if_neg hb] at h | (simp only [hb, hT, reduceIte] at h) | skip
       refine L.Gy hb73 Y.mv ?_
       refine L.Gy hb73 Y.mv ?_
       refine L.Gy hb73 Y.bin ?_
       refine L.Y (Y.pk (c := false) hb73) ?_
       refine L.Y Y.mv ?_
       refine L.Gc (fun hb => ?_) (fun hb => ?_)
       ·
        have hb74 := hb
        try simp only [hS, hE, ne_eq] at hb
        first | rw [if_pos hb74] at h | rw [if_neg (Bool.eq_false_iff.1 hb74)] at h | rw [if_pos hb] at h | rw [if_neg hb] at h | (simp only [hb, hT, reduceIte] at h) | skip
        exfalso
        revert h
        exact fun h => by cases k <;> simp [laws_FnNearestOrders.j4] at h
       ·
        have hb74 := hb
        try simp only [hS, hE, ne_eq] at hb
        first | rw [if_pos hb74] at h | rw [if_neg (Bool.eq_false_iff.1 hb74)] at h | rw [if_pos hb] at h | rw [if_neg hb] at h | (simp only [hb, hT, reduceIte] at h) | skip
        refine L.Gy hb74 Y.mv ?_
        refine L.Gy hb74 Y.mv ?_
        refine L.Gy hb74 (Y.bb Tryd.underlying4) ?_
        refine L.Y (Y.pk (c := false) hb74) ?_
        refine L.Y Y.mv ?_
        refine L.Gc (fun hb => ?_) (fun hb => ?_)
        ·
         have hb75 := hb
         try simp only [hS, hE, ne_eq] at hb
         first | rw [if_pos hb75] at h | rw [if_neg (Bool.eq_false_iff.1 hb75)] at h | rw [if_pos hb] at h | rw [if_neg hb] at h | (simp only [hb, hT, reduceIte] at h) | skip
         exfalso
         revert h
         exact fun h => by cases k <;> simp [laws_FnNearestOrders.j4] at h
        ·
         have hb75 := hb
         try simp only [hS, hE, ne_eq] at hb
         first | rw [if_pos hb75] at h | rw [if_neg (Bool.eq_false_iff.1 hb75)] at h | rw [if_pos hb] at h | rw [if_neg hb] at h | (simp only [hb, hT, reduceIte] at h) | skip
         refine L.Gy hb75 Y.mv ?_
         refine L.Gy hb75 (Y.ln Tryd.underlying39) ?_
         refine L.Gy hb75 Y.mv ?_
         refine L.Gy hb75 (Y.ln Tryd.underlying39) ?_
         refine L.Gy hb75 Y.bin ?_
         refine L.Y (Y.pk (c := false) hb75) ?_
         refine AList.nil ?_
         rcases k with _ | k
         ·
          exact absurd h (by simp [laws_FnNearestOrders.j4])
         simp only [laws_FnNearestOrders.j4] at h
         refine W.cond (fun hb => ?_) (fun hb => ?_)
         ·
          have hb76 := hb
          try simp only [hS, hE, ne_eq] at hb
          first | rw [if_pos hb76] at h | rw [if_neg (Bool.eq_false_iff.1 hb76)] at h | rw [if_pos hb] at h | rw [if_neg hb] at h | (simp only [hb, hT, reduceIte] at h) | skip
          exfalso
          revert h
          exact fun h => by simp at h
         ·
          have hb76 := hb
          try simp only [hS, hE, ne_eq] at hb
          first | rw [if_pos hb76] at h | rw [if_neg (Bool.eq_false_iff.1 hb76)] at h | rw [if_pos hb] at h | rw [if_neg hb] at h | (simp only [hb, hT, reduceIte] at h) | skip
          refine AWp.skip ?_
          refine AWp.seq ?_
          refine AWp.seq ?_
          refine W.kp [0, 1, 4, 5, 6, 7, 8, 9, 10, 11, 12, 25, 26, 27, 28, 29, 30, 31, 32, 33, 34, 35, 36, 41, 74, 75, 200] ?_
          refine AWp.region ?_
          refine L.Y Y.mv ?_
          refine L.Y (Y.ln Tryd.underlying39) ?_
          refine L.Y Y.mv ?_
          refine AList.nil ?_
          refine AWp.block ?_
          refine AWp.loopI (fun kk e H => kk ≤ k ∧ ∃ (x201 : List (S26)) (x35 : List (S26)) (x202 : Int) (x203 : Int) (x627000 : Int) (x627001 : List Int) (x634000 : Int) (x634001 : List Int) (x641000 : Int) (x641001 : List Int) (x669000 : Int) (x669001 : List Int) (x670000 : Int) (x670001 : List Int), e = [(5, .ptr 0 0), (7, .ptr 1 0), (10, .ptr 2 0), (25, .ptr 3 0), (26, .ptr 4 0), (33, .own 5 x201.length), (35, .own 6 x35.length), (201, .own 5 x201.length), (202, .lit (.int .i64 x202)), (203, .lit (.int .i64 x203))] ∧ H = [.bx 26 [.lit (.int .i64 x627000), .row 1 x627001.length false (ints .i64 x627001)], .bx 26 [.lit (.int .i64 x634000), .row 1 x634001.length false (ints .i64 x634001)], .bx 26 [.lit (.int .i64 x641000), .row 1 x641001.length false (ints .i64 x641001)], .bx 26 [.lit (.int .i64 x669000), .own 7 x669001.length], .bx 26 [.lit (.int .i64 x670000), .own 8 x670001.length], .sl 26 2 x201.length false (Enc.cells x201), .sl 26 2 x35.length false (Enc.cells x35), .sl 3 1 x669001.length false (ints .i64 x669001), .sl 3 1 x670001.length false (ints .i64 x670001)] ∧ laws_FnNearestOrders.l1 kk x201 x35 x201 x202 x203 = some true) (k := k)
           ⟨_, _, ⟨Nat.le_refl _, _, _, _, _, _, _, _, _, _, _, _, _, _, _, rfl, rfl, h⟩, IsPart.at [] [1, 2, 3, 6, 7, 8, 9, 4, 5] base0 (H.c (H.c (H.c (H.c (H.c (H.c (H.c (H.c (H.c .nil))))))))) (E.c (E.c (E.c (E.c (E.c (E.c (E.c (E.c (E.c (E.c .nil))))))))))⟩ ?_
          clear h
          rintro k77 e H ⟨hk78, x201, x35, x202, x203, x627000, x627001, x634000, x634001, x641000, x641001, x669000, x669001, x670000, x670001, rfl, rfl, h⟩
          cases k77 with
          | zero => exact absurd h (by simp [laws_FnNearestOrders.l1])
          | succ k77 =>
          simp only [laws_FnNearestOrders.l1] at h
          refine AWp.seq ?_
          refine AWp.region ?_
          refine L.Y Y.bin ?_
          refine AList.nil ?_
          refine AWp.seq ?_
          refine W.cond (fun hb => ?_) (fun hb => ?_)
          ·
           have hb79 := hb
           try simp only [hS, hE, ne_eq] at hb
           first | rw [if_pos hb79] at h | rw [if_neg (Bool.eq_false_iff.1 hb79)] at h | rw [if_pos hb] at h | rw [if_neg hb] at h | (simp only [hb, hT, reduceIte] at h) | skip
           repeat (first | (rw [iN] at h; obtain ⟨_, h⟩ := h) | (rw [iP] at h; obtain ⟨_, h⟩ := h) | (simp only [bS] at h))
           refine AWp.skip ?_
           refine AWp.seq ?_
           refine AWp.block ?_
           refine AWp.seq ?_
           refine AWp.region ?_
           refine L.Y Y.mv ?_
           refine L.Y (Y.ixo Tryd.underlying39 Y26) ?_
           refine L.S (S.ldTN 2 Tryd.underlying26 Y26 en_T26) ?_
           refine L.M (M.al Y26) ?_
           refine L.Y Y.asg ?_
           refine L.S (S.stb Y26) ?_
           refine AList.nil ?_
           refine AWp.seq ?_
           refine Dt.reg [] [] (.t 0 (.y 1 (.y 2 (.y 3 (.t 4 (.one 5 (.y 6 (.y 7 (.y 8 (.y 9 (.y 10 (.y 11 (.y 12 (.y 13 (.y 14 (.y 15 (.t 16 (.y 17 (.t 18 (.one 19 (.y 20 (.y 21 (.y 22 .done))))))))))))))))))))))) HM ?_
           refine Dt.T rfl wantN (D.ldN Tryd.underlying26 Y26) ?_
           refine Dt.Y rfl wantN Y.mv ?_
           refine Dt.Y rfl wantN Y.mv ?_
           refine Dt.Y rfl wantN (Y.ixo Tryd.underlying39 Y26) ?_
           refine Dt.T rfl wantN (D.ldTN 2 Tryd.underlying26 Y26 en_T26) ?_
           refine Dt.O (g' := false) rfl wantN ?_
           replace h := Option.bind_eq_some_iff.1 h
           obtain ⟨t687, hc80, h⟩ := h
           refine Ox.C true [] Tryd.func18 (laws_vOrder.ac _ _ _ _ _ _ hc80) .nil ?_
           refine Dt.Y rfl wantN Y.nt ?_
           refine Dt.Y rfl wantN Y.mv ?_
           refine Dt.F 215 (fun hb => ?_) (fun hb => ?_)
           ·
            have hb81 := hb
            try simp only [hS, hE, ne_eq] at hb
            first | rw [if_pos hb81] at h | rw [if_neg (Bool.eq_false_iff.1 hb81)] at h | rw [if_pos hb] at h | rw [if_neg hb] at h | (simp only [hb, hT, reduceIte] at h) | skip
            exfalso
            revert h
            exact fun h => by simp at h
           ·
            have hb81 := hb
            try simp only [hS, hE, ne_eq] at hb
            first | rw [if_pos hb81] at h | rw [if_neg (Bool.eq_false_iff.1 hb81)] at h | rw [if_pos hb] at h | rw [if_neg hb] at h | (simp only [hb, hT, reduceIte] at h) | skip
            refine Dt.Y rfl (wantY hb81) Y.mv ?_
            refine Dt.Y rfl (wantY hb81) Y.bin ?_
            refine Dt.Y rfl (wantY hb81) Y.mv ?_
            refine Dt.F 218 (fun hb => ?_) (fun hb => ?_)
            ·
             have hb82 := hb
             try simp only [hS, hE, ne_eq] at hb
             first | rw [if_pos hb82] at h | rw [if_neg (Bool.eq_false_iff.1 hb82)] at h | rw [if_pos hb] at h | rw [if_neg hb] at h | (simp only [hb, hT, reduceIte] at h) | skip
             repeat (first | (rw [iN] at h; obtain ⟨_, h⟩ := h) | (rw [iP] at h; obtain ⟨_, h⟩ := h) | (simp only [bS] at h))
             refine Dt.Y rfl (wantY hb82) Y.mv ?_
             refine Dt.Y rfl (wantY hb82) Y.mv ?_
             refine Dt.Y rfl (wantY hb82) Y.bin ?_
             refine Dt.Y rfl (wantY hb82) (Y.ixo Tryd.underlying39 Y26) ?_
             refine Dt.Y rfl (wantY hb82) (Y.fa (off := 1) Tryd.underlying26 Y22) ?_
             refine Dt.T rfl (wantY hb82) (D.ldT 2 1 Tryd.underlying22 en_T26) ?_
             refine Dt.Y rfl (wantY hb82) (Y.fa (off := 1) Tryd.underlying26 Y22) ?_
             refine Dt.T rfl (wantY hb82) (D.ld Tryd.underlying22) ?_
             refine Dt.O (g' := false) rfl (wantY hb82) ?_
             replace h := Option.bind_eq_some_iff.1 h
             obtain ⟨t689, hc83, h⟩ := h
             refine Ox.C true [] Tryd.func25 (laws_vLess.ac _ _ _ _ hc83) .nil ?_
             refine Dt.Y rfl (wantY hb82) Y.nt ?_
             refine Dt.Y rfl (wantY hb81) (Y.pk (c := true) hb82) ?_
             refine Dt.Y rfl wantN (Y.pk (c := false) hb81) ?_
             refine Dt.nil ?_
             refine W.cond (fun hb => ?_) (fun hb => ?_)
             ·
              have hb84 := hb
              try simp only [hS, hE, ne_eq] at hb
              first | rw [if_pos hb84] at h | rw [if_neg (Bool.eq_false_iff.1 hb84)] at h | rw [if_pos hb] at h | rw [if_neg hb] at h | (simp only [hb, hT, reduceIte] at h) | skip
              exfalso
              revert h
              exact fun h => by simp at h
             ·
              have hb84 := hb
              try simp only [hS, hE, ne_eq] at hb
              first | rw [if_pos hb84] at h | rw [if_neg (Bool.eq_false_iff.1 hb84)] at h | rw [if_pos hb] at h | rw [if_neg hb] at h | (simp only [hb, hT, reduceIte] at h) | skip
              refine AWp.skip ?_
              refine W.kp [5, 7, 10, 25, 26, 33, 35, 37, 38, 201, 202, 203, 204, 230] ?_
              refine AWp.region ?_
              refine L.Y Y.bin ?_
              refine L.Y Y.mv ?_
              refine AList.nil ?_
              exact ⟨k77, by omega, _, _, ⟨by omega, _, _, _, _, _, _, _, _, _, _, _, _, _, _, rfl, rfl, h⟩, IsPart.at [] [0, 1, 2, 3, 4, 5, 6, 7, 8] base0 (H.c (H.c (H.c (H.c (H.c (H.c (H.c (H.c (H.c .nil))))))))) (E.c (E.c (E.c (E.c (E.c (E.c (E.c (E.c (E.c (E.c .nil))))))))))⟩
            ·
             have hb82 := hb
             try simp only [hS, hE, ne_eq] at hb
             first | rw [if_pos hb82] at h | rw [if_neg (Bool.eq_false_iff.1 hb82)] at h | rw [if_pos hb] at h | rw [if_neg hb] at h | (simp only [hb, hT, reduceIte] at h) | skip
             refine Dt.No rfl (wantZ hb82) ?_
             refine Dt.No rfl (wantZ hb82) ?_
             refine Dt.No rfl (wantZ hb82) ?_
             refine Dt.No rfl (wantZ hb82) ?_
             refine Dt.No rfl (wantZ hb82) ?_
             refine Dt.Nt rfl (wantZ hb82) ?_
             refine Dt.No rfl (wantZ hb82) ?_
             refine Dt.Nt rfl (wantZ hb82) ?_
             refine Dt.Po rfl (wantZ hb82) ?_
             refine Dt.No rfl (wantZ hb82) ?_
             refine Dt.Y rfl (wantY hb81) (Y.pk (c := false) hb82) ?_
             refine Dt.Y rfl wantN (Y.pk (c := false) hb81) ?_
             refine Dt.nil ?_
             refine W.cond (fun hb => ?_) (fun hb => ?_)
             ·
              first | exact Bool.false_ne_true ((Eq.symm (by assumption)).trans hb) | exact Bool.false_ne_true (hb.symm.trans (by assumption)) | exact DD hb
             have hb85 := hb
             refine AWp.skip ?_
             refine W.kp [5, 7, 10, 25, 26, 33, 35, 37, 38, 201, 202, 203, 204, 230] ?_
             refine AWp.region ?_
             refine L.Y Y.bin ?_
             refine L.Y Y.mv ?_
             refine AList.nil ?_
             exact ⟨k77, by omega, _, _, ⟨by omega, _, _, _, _, _, _, _, _, _, _, _, _, _, _, rfl, rfl, h⟩, IsPart.at [] [0, 1, 2, 3, 4, 5, 6, 7, 8] base0 (H.c (H.c (H.c (H.c (H.c (H.c (H.c (H.c (H.c .nil))))))))) (E.c (E.c (E.c (E.c (E.c (E.c (E.c (E.c (E.c (E.c .nil))))))))))⟩
          ·
           have hb79 := hb
           try simp only [hS, hE, ne_eq] at hb
           first | rw [if_pos hb79] at h | rw [if_neg (Bool.eq_false_iff.1 hb79)] at h | rw [if_pos hb] at h | rw [if_neg hb] at h | (simp only [hb, hT, reduceIte] at h) | skip
           refine AWp.exit ?_
           refine AWp.seq ?_
           refine AWp.region ?_
           refine L.Y Y.asg ?_
           refine AList.nil ?_
           refine AWp.ret ?_
           first | (exfalso; cases h; done) | exact ⟨.inr rfl, [(4, _)], _, ⟨rfl, rfl⟩, IsPart.at [] [] base0 .nil (E.c .nil (hs := Sub.litE (LV h)))⟩

/-- THE ONE PURE STATEMENT of laws_FnNearestOrders: yours. -/
def laws_FnNearestOrders.Pure : Prop := ∀ (l0 : List Int) (l1 : List Int), l0.length ≤ maxLen → l0.length * 1 ≤ 140737488351232 → (∀ x ∈ l0, (Lit.int .u8 x).wf = true) → l1.length ≤ maxLen → l1.length * 1 ≤ 140737488351232 → (∀ x ∈ l1, (Lit.int .u8 x).wf = true) → ∃ k, laws_FnNearestOrders.f k l0 l1 = some true
theorem laws_FnNearestOrders.walk (P : laws_FnNearestOrders.Pure) (a0 : Option Addr) (len0 cap0 : Nat) (z0 : List Int) (a1 : Option Addr) (len1 cap1 : Nat) (z1 : List Int) (w : World) (hT : TabIn w) (w0 : (a0 = none ∧ len0 = 0 ∧ cap0 = 0 ∧ z0 = []) ∨ ∃ x, a0 = some x ∧ len0 ≤ cap0 ∧ cap0 ≤ maxLen ∧ z0.length = cap0 ∧ (∀ i, i < z0.length → w.cell? (x.add i) = some (.int .u8 (z0.getD i 0))) ∧ ∀ n ∈ z0, (Lit.int .u8 n).wf = true) (y0 : len0 * 1 ≤ 140737488351232) (w1 : (a1 = none ∧ len1 = 0 ∧ cap1 = 0 ∧ z1 = []) ∨ ∃ x, a1 = some x ∧ len1 ≤ cap1 ∧ cap1 ≤ maxLen ∧ z1.length = cap1 ∧ (∀ i, i < z1.length → w.cell? (x.add i) = some (.int .u8 (z1.getD i 0))) ∧ ∀ n ∈ z1, (Lit.int .u8 n).wf = true) (y1 : len1 * 1 ≤ 140737488351232) :
  Calls Tryd.prog 4 #[.slice a0 len0 cap0, .slice a1 len1 cap1] w fun e w' => e = .returned (.bool true) ∧ Below w.heap.size w w' := by
 obtain ⟨hl0, hv0⟩ := VR.came (A0 := fun _ => .bool false) (H := []) w0
 obtain ⟨hm0, hw0⟩ := came_fits w0
 have y0' := y0
 rw [← hl0] at y0'
 obtain ⟨hl1, hv1⟩ := VR.came (A0 := fun _ => .bool false) (H := []) w1
 obtain ⟨hm1, hw1⟩ := came_fits w1
 have y1' := y1
 rw [← hl1] at y1'
 obtain ⟨k, h⟩ := P (z0.take len0) (z1.take len1) hm0 y0' hw0 hm1 y1' hw1
 refine ACalls.law (vs := [.slice a0 len0 cap0, .slice a1 len1 cap1]) (tabP_of hT) (laws_FnNearestOrders.ac k (z0.take len0) (z1.take len1) h) ?_
 repeat' first | assumption | exact VRs_nil | exact VR_lit | refine VRs_cons ?_ ?_ | refine VR_agg ?_

end Go.Proofs.YtakabmokpknknaaDoor.PFnNearestOrders
