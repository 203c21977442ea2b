-- Written by a program of this session's (wip/myprint2): the functions by the kit's print, the walks by awgen.py. Lean checks it.
import Derived.Test.YtakabmokpknknaaDoorPFnTablesOfRelationsx0
import Derived.Test.YtakabmokpknknaaDoorPFnTablesOfRelationsx1
import Derived.Test.YtakabmokpknknaaDoorPFnTablesOfRelationsx2
import Derived.Test.YtakabmokpknknaaDoorPFnTablesOfRelationsx5
import Derived.Test.YtakabmokpknknaaDoorPFnTablesOfRelationsx9
import Derived.Test.YtakabmokpknknaaDoorPFnTablesOfRelationsx10
import Derived.Test.YtakabmokpknknaaDoorPFnTablesOfRelationsx11
import Derived.Test.YtakabmokpknknaaDoorPFnTablesOfRelationsx12
import Derived.Test.YtakabmokpknknaaDoorPFnTablesOfRelationsx15
namespace Go.Proofs.YtakabmokpknknaaDoor.PFnTablesOfRelations
open Go.RowKit Go.Proofs.YtakabmokpknknaaDoorW.PrintWords Go.Proofs.YtakabmokpknknaaDoorW.PrintLast Go.Proofs.YtakabmokpknknaaDoorW.PrintMore Go.Proofs.YtakabmokpknknaaDoorM Go.Proofs.YtakabmokpknknaaDoorA Go.Proofs.YtakabmokpknknaaDoorT
attribute [local go_sem] max2_int min2_int max_two min_two max_three min_three max_four min_four   -- for this text's walks alone
set_option linter.unusedVariables false
set_option linter.unusedSimpArgs false

/-! ### laws_FnTablesOfRelations: function 5 -/
mutual
def laws_FnTablesOfRelations.j0 : Nat → List Int → List Int → Bool → Bool → Int → List Int → Option (Bool)
 | 0, _, _, _, _, _, _ => none
 | k + 1, x1, x6, x7, x48, x649000, x649001 => if x48 = true then (some false) else (if x7 = true then ((impl_IsRational.f k x649000 x6).bind fun bt658 => ((impl_RevealedOf.f k x649000 x6).bind fun bt660 => ((impl_PathFails.f k x649000 x6).bind fun bt666 => (if bt658.2 = true then (if bt658.1 = true then (if bt660.2.2 = true then ((laws_vOrder.f k bt660.1 bt660.2.1 x649000 x649001).bind fun t669 => (if t669 = true then ((impl_IsOrder.f k x649000 x649001).bind fun t670 => (if (bt666.2.2 == t670) = true then (some false) else (laws_FnTablesOfRelations.j1 k x1))) else (some false))) else (some false)) else (some false)) else (some false))))) else (laws_FnTablesOfRelations.j1 k x1))
def laws_FnTablesOfRelations.j1 : Nat → List Int → Option (Bool)
 | 0, _ => none
 | k + 1, x1 => (spec_DrawCountChoices.f x1).bind fun bt671 => ((impl_CountChoices.f k bt671.1 bt671.2).bind fun bt673 => ((spec_CountChoices.f k bt671.1 bt671.2).bind fun bt675 => ((impl_OrdersOf.f k bt671.1 bt671.2).bind fun bt677 => (if (bt673.2 != bt675.2) = true then (some false) else (if bt673.1 = bt675.1 then (if (bt677.2 != bt673.2) = true then (some false) else (some (bt673.1 == (bt677.1.length : Int)))) else (some false))))))
end
def laws_FnTablesOfRelations.f (k : Nat) (l0 : List Int) (l1 : List Int) : Option (Bool) := (laws_big.f l0 l1).bind fun t643 => (if t643 = true then (some true) else ((spec_DrawChoiceTable.f k l0).bind fun bt644 => ((impl_ChoiceTable.f k bt644.1 bt644.2).bind fun bt649 => ((spec_ChoiceTable.f k bt644.1 bt644.2).bind fun bt653 => (if (bt649.2 != bt653.2) = true then (laws_FnTablesOfRelations.j0 k l1 bt649.1 bt649.2 true bt644.1 bt644.2) else ((laws_vSame.f k bt649.1 bt653.1).bind fun t657 => (laws_FnTablesOfRelations.j0 k l1 bt649.1 bt649.2 (!t657) bt644.1 bt644.2)))))))
set_option maxRecDepth 100000 in
set_option maxHeartbeats 20000000 in
theorem laws_FnTablesOfRelations.ac (k : Nat) (l0 : List Int) (l1 : List Int)  (h : laws_FnTablesOfRelations.f k l0 l1 = some true) :
  ACalls Tryd.prog 5 [.row 1 l0.length false (ints .u8 l0), .row 1 l1.length false (ints .u8 l1)] [] (fun v H' => v = .lit (.bool true) ∧ H' = []) := by
 refine ACalls.ofP [4] Tryd.func5 rfl (by exact Nat.le_of_ble_eq_true rfl) rfl (by decide) ?_
 simp only [Tryd.ntmps5, env0, laws_FnTablesOfRelations.f] at h ⊢
 refine AWp.seq ?_
 refine AWp.region ?_
 refine L.Y Y.asg ?_
 refine AList.nil ?_
 refine AWp.seq ?_
 refine AWp.seq ?_
 refine AWp.region ?_
 refine L.Y Y.mv ?_
 refine L.Y Y.mv ?_
 replace h := Option.bind_eq_some_iff.1 h
 obtain ⟨t643, hc1, h⟩ := h
 refine L.C (C.callE (l := true) [] Tryd.func16 (laws_big.ac _ _ _ hc1) .nil ?_)
 refine AList.nil ?_
 refine W.cond (fun hb => ?_) (fun hb => ?_)
 ·
  have hb2 := hb
  try simp only [hS, hE, ne_eq] at hb
  first | rw [if_pos hb2] at h | rw [if_neg (Bool.eq_false_iff.1 hb2)] at h | rw [if_pos hb] at h | rw [if_neg hb] at h | (simp only [hb, hT, reduceIte] at h) | skip
  refine AWp.seq ?_
  refine AWp.region ?_
  refine L.Y Y.asg ?_
  refine AList.nil ?_
  refine AWp.ret ?_
  first | (exfalso; cases h; done) | exact ⟨.inr rfl, [(4, _)], _, ⟨rfl, rfl⟩, IsPart.at [] [] base0 .nil (E.c .nil (hs := Sub.litE (LV h)))⟩
 ·
  have hb2 := hb
  try simp only [hS, hE, ne_eq] at hb
  first | rw [if_pos hb2] at h | rw [if_neg (Bool.eq_false_iff.1 hb2)] at h | rw [if_pos hb] at h | rw [if_neg hb] at h | (simp only [hb, hT, reduceIte] at h) | skip
  refine AWp.skip ?_
  refine AWp.seq ?_
  refine AWp.region ?_
  refine L.Y Y.mv ?_
  replace h := Option.bind_eq_some_iff.1 h
  obtain ⟨⟨t644, t645⟩, hc3, h⟩ := h
  dsimp only at h
  refine L.C (C.callE (l := true) [] Tryd.func26 (spec_DrawChoiceTable.ac _ _ _ _ hc3) .nil ?_)
  refine L.M (M.al Y26) ?_
  refine L.S (S.stb Y26) ?_
  refine AList.nil ?_
  refine AWp.seq ?_
  refine W.kp [0, 1, 4, 5, 27] ?_
  refine AWp.region ?_
  refine L.S (S.ldN Tryd.underlying26 Y26) ?_
  replace h := Option.bind_eq_some_iff.1 h
  obtain ⟨⟨t649, t652⟩, hc4, h⟩ := h
  dsimp only at h
  refine L.C (C.callE (l := true) [] Tryd.func27 (impl_ChoiceTable.ac _ _ _ _ _ hc4) .nil ?_)
  refine L.Y Y.mv ?_
  refine L.Y Y.ex ?_
  refine L.Y Y.ex ?_
  refine L.Y Y.asg ?_
  refine L.Y Y.asg ?_
  refine AList.nil ?_
  refine AWp.seq ?_
  refine W.kp [0, 1, 4, 5, 6, 7, 27] ?_
  refine AWp.region ?_
  refine L.S (S.ldN Tryd.underlying26 Y26) ?_
  replace h := Option.bind_eq_some_iff.1 h
  obtain ⟨⟨t653, t656⟩, hc5, h⟩ := h
  dsimp only at h
  refine L.C (C.callE (l := true) [] Tryd.func28 (spec_ChoiceTable.ac _ _ _ _ _ hc5) .nil ?_)
  refine L.Y Y.mv ?_
  refine L.Y Y.ex ?_
  refine L.Y Y.ex ?_
  refine L.Y Y.asg ?_
  refine L.Y Y.asg ?_
  refine AList.nil ?_
  refine AWp.seq ?_
  refine AWp.seq ?_
  refine W.kp [0, 1, 4, 5, 6, 7, 8, 9, 27] ?_
  refine AWp.region ?_
  refine L.Y Y.mv ?_
  refine L.Y Y.mv ?_
  refine L.Y (Y.bb Tryd.underlying4) ?_
  refine L.Y Y.mv ?_
  refine L.Gc (fun hb => ?_) (fun hb => ?_)
  ·
   have hb6 := hb
   try simp only [hS, hE, ne_eq] at hb
   first | rw [if_pos hb6] at h | rw [if_neg (Bool.eq_false_iff.1 hb6)] at h | rw [if_pos hb] at h | rw [if_neg hb] at h | (simp only [hb, hT, reduceIte] at h) | skip
   exfalso
   revert h
   exact fun h => by cases k <;> simp [laws_FnTablesOfRelations.j0] at h
  ·
   have hb6 := hb
   try simp only [hS, hE, ne_eq] at hb
   first | rw [if_pos hb6] at h | rw [if_neg (Bool.eq_false_iff.1 hb6)] at h | rw [if_pos hb] at h | rw [if_neg hb] at h | (simp only [hb, hT, reduceIte] at h) | skip
   refine L.Gy hb6 Y.mv ?_
   refine L.Gy hb6 Y.mv ?_
   replace h := Option.bind_eq_some_iff.1 h
   obtain ⟨t657, hc7, h⟩ := h
   refine L.GC hb6 (C.callE (l := true) [] Tryd.func29 (laws_vSame.ac _ _ _ _ hc7) .nil ?_)
   refine L.Gy hb6 Y.nt ?_
   refine L.Y (Y.pk (c := false) hb6) ?_
   refine AList.nil ?_
   rcases k with _ | k
   ·
    exact absurd h (by simp [laws_FnTablesOfRelations.j0])
   simp only [laws_FnTablesOfRelations.j0] at h
   refine W.cond (fun hb => ?_) (fun hb => ?_)
   ·
    have hb8 := hb
    try simp only [hS, hE, ne_eq] at hb
    first | rw [if_pos hb8] at h | rw [if_neg (Bool.eq_false_iff.1 hb8)] at h | rw [if_pos hb] at h | rw [if_neg hb] at h | (simp only [hb, hT, reduceIte] at h) | skip
    exfalso
    revert h
    exact fun h => by simp at h
   ·
    have hb8 := hb
    try simp only [hS, hE, ne_eq] at hb
    first | rw [if_pos hb8] at h | rw [if_neg (Bool.eq_false_iff.1 hb8)] at h | rw [if_pos hb] at h | rw [if_neg hb] at h | (simp only [hb, hT, reduceIte] at h) | skip
    refine AWp.skip ?_
    refine AWp.seq ?_
    refine AWp.seq ?_
    refine W.kp [0, 1, 4, 5, 6, 7, 8, 9, 27, 48] ?_
    refine AWp.region ?_
    refine L.Y Y.mv ?_
    refine AList.nil ?_
    refine W.cond (fun hb => ?_) (fun hb => ?_)
    ·
     have hb9 := hb
     try simp only [hS, hE, ne_eq] at hb
     first | rw [if_pos hb9] at h | rw [if_neg (Bool.eq_false_iff.1 hb9)] at h | rw [if_pos hb] at h | rw [if_neg hb] at h | (simp only [hb, hT, reduceIte] at h) | skip
     refine AWp.seq ?_
     refine AWp.region ?_
     refine L.Y (Y.fa (off := 0) Tryd.underlying26 Y3) ?_
     refine L.S (S.ld Tryd.underlying3) ?_
     refine L.Y Y.mv ?_
     replace h := Option.bind_eq_some_iff.1 h
     obtain ⟨⟨t658, t659⟩, hc10, h⟩ := h
     dsimp only at h
     refine L.C (C.callE (l := true) [] Tryd.func30 (impl_IsRational.ac _ _ _ _ _ hc10) .nil ?_)
     refine L.Y Y.mv ?_
     refine L.Y Y.ex ?_
     refine L.Y Y.ex ?_
     refine L.Y Y.asg ?_
     refine L.Y Y.asg ?_
     refine AList.nil ?_
     refine AWp.seq ?_
     refine W.kp [0, 1, 4, 5, 6, 7, 8, 9, 10, 11, 27, 48, 49] ?_
     refine AWp.region ?_
     refine L.Y (Y.fa (off := 0) Tryd.underlying26 Y3) ?_
     refine L.S (S.ld Tryd.underlying3) ?_
     refine L.Y Y.mv ?_
     replace h := Option.bind_eq_some_iff.1 h
     obtain ⟨⟨t660, t661, t664⟩, hc11, h⟩ := h
     dsimp only at h
     refine L.C (C.callE (l := true) [] Tryd.func31 (impl_RevealedOf.ac _ _ _ _ _ _ hc11) .nil ?_)
     refine L.Y Y.mv ?_
     refine L.Y Y.ex ?_
     refine L.Y Y.ex ?_
     refine L.M (M.al Y26) ?_
     refine L.S (S.stb Y26) ?_
     refine L.Y Y.asg ?_
     refine AList.nil ?_
     refine AWp.seq ?_
     refine W.kp [0, 1, 4, 5, 6, 7, 8, 9, 10, 11, 12, 13, 27, 48, 49] ?_
     refine AWp.region ?_
     refine L.Y (Y.fa (off := 0) Tryd.underlying26 Y3) ?_
     refine L.S (S.ld Tryd.underlying3) ?_
     refine L.Y Y.mv ?_
     replace h := Option.bind_eq_some_iff.1 h
     obtain ⟨⟨t666, t667, t668⟩, hc12, h⟩ := h
     dsimp only at h
     refine L.C (C.callE (l := true) [] Tryd.func32 (impl_PathFails.ac _ _ _ _ _ _ hc12) .nil ?_)
     refine L.Y Y.mv ?_
     refine L.Y Y.ex ?_
     refine L.Y Y.ex ?_
     refine L.Y Y.ex ?_
     refine L.Y Y.asg ?_
     refine L.Y Y.asg ?_
     refine L.Y Y.asg ?_
     refine AList.nil ?_
     refine AWp.seq ?_
     refine W.kp [0, 1, 4, 5, 6, 7, 8, 9, 10, 11, 12, 13, 16, 27, 48, 49] ?_
     refine AWp.region ?_
     refine L.Y Y.mv ?_
     refine L.Y Y.nt ?_
     refine L.Y Y.mv ?_
     refine L.Gc (fun hb => ?_) (fun hb => ?_)
     ·
      have hb13 := hb
      try simp only [hS, hE, ne_eq] at hb
      first | rw [if_pos hb13] at h | rw [if_neg (Bool.eq_false_iff.1 hb13)] at h | rw [if_pos hb] at h | rw [if_neg hb] at h | (simp only [hb, hT, reduceIte] at h) | skip
      exfalso
      revert h
      exact fun h => by simp at h
     ·
      have hb13 := hb
      try simp only [hS, hE, ne_eq] at hb
      first | rw [if_pos hb13] at h | rw [if_neg (Bool.eq_false_iff.1 hb13)] at h | rw [if_pos hb] at h | rw [if_neg hb] at h | (simp only [hb, hT, reduceIte] at h) | skip
      refine L.Gy hb13 Y.mv ?_
      refine L.Gy hb13 Y.nt ?_
      refine L.Y (Y.pk (c := false) hb13) ?_
      refine L.Y Y.mv ?_
      refine L.Gc (fun hb => ?_) (fun hb => ?_)
      ·
       have hb14 := hb
       try simp only [hS, hE, ne_eq] at hb
       first | rw [if_pos hb14] at h | rw [if_neg (Bool.eq_false_iff.1 hb14)] at h | rw [if_pos hb] at h | rw [if_neg hb] at h | (simp only [hb, hT, reduceIte] at h) | skip
       exfalso
       revert h
       exact fun h => by simp at h
      ·
       have hb14 := hb
       try simp only [hS, hE, ne_eq] at hb
       first | rw [if_pos hb14] at h | rw [if_neg (Bool.eq_false_iff.1 hb14)] at h | rw [if_pos hb] at h | rw [if_neg hb] at h | (simp only [hb, hT, reduceIte] at h) | skip
       refine L.Gy hb14 Y.mv ?_
       refine L.Gy hb14 Y.nt ?_
       refine L.Y (Y.pk (c := false) hb14) ?_
       refine L.Y Y.mv ?_
       refine L.Gc (fun hb => ?_) (fun hb => ?_)
       ·
        have hb15 := hb
        try simp only [hS, hE, ne_eq] at hb
        first | rw [if_pos hb15] at h | rw [if_neg (Bool.eq_false_iff.1 hb15)] at h | rw [if_pos hb] at h | rw [if_neg hb] at h | (simp only [hb, hT, reduceIte] at h) | skip
        exfalso
        revert h
        exact fun h => by simp at h
       ·
        have hb15 := hb
        try simp only [hS, hE, ne_eq] at hb
        first | rw [if_pos hb15] at h | rw [if_neg (Bool.eq_false_iff.1 hb15)] at h | rw [if_pos hb] at h | rw [if_neg hb] at h | (simp only [hb, hT, reduceIte] at h) | skip
        refine L.Gs hb15 (S.ldN Tryd.underlying26 Y26) ?_
        refine L.Gs hb15 (S.ldN Tryd.underlying26 Y26) ?_
        replace h := Option.bind_eq_some_iff.1 h
        obtain ⟨t669, hc16, h⟩ := h
        refine L.GC hb15 (C.callE (l := true) [] Tryd.func18 (laws_vOrder.ac _ _ _ _ _ _ hc16) .nil ?_)
        refine L.Gy hb15 Y.nt ?_
        refine L.Y (Y.pk (c := false) hb15) ?_
        refine L.Y Y.mv ?_
        refine L.Gc (fun hb => ?_) (fun hb => ?_)
        ·
         have hb17 := hb
         try simp only [hS, hE, ne_eq] at hb
         first | rw [if_pos hb17] at h | rw [if_neg (Bool.eq_false_iff.1 hb17)] at h | rw [if_pos hb] at h | rw [if_neg hb] at h | (simp only [hb, hT, reduceIte] at h) | skip
         exfalso
         revert h
         exact fun h => by simp at h
        ·
         have hb17 := hb
         try simp only [hS, hE, ne_eq] at hb
         first | rw [if_pos hb17] at h | rw [if_neg (Bool.eq_false_iff.1 hb17)] at h | rw [if_pos hb] at h | rw [if_neg hb] at h | (simp only [hb, hT, reduceIte] at h) | skip
         refine L.Gy hb17 Y.mv ?_
         refine L.Gs hb17 (S.ldN Tryd.underlying26 Y26) ?_
         replace h := Option.bind_eq_some_iff.1 h
         obtain ⟨t670, hc18, h⟩ := h
         refine L.GC hb17 (C.callE (l := true) [] Tryd.func33 (impl_IsOrder.ac _ _ _ _ hc18) .nil ?_)
         refine L.Gy hb17 (Y.bb Tryd.underlying4) ?_
         refine L.Y (Y.pk (c := false) hb17) ?_
         refine AList.nil ?_
         refine W.cond (fun hb => ?_) (fun hb => ?_)
         ·
          have hb19 := hb
          try simp only [hS, hE, ne_eq] at hb
          first | rw [if_pos hb19] at h | rw [if_neg (Bool.eq_false_iff.1 hb19)] at h | rw [if_pos hb] at h | rw [if_neg hb] at h | (simp only [hb, hT, reduceIte] at h) | skip
          exfalso
          revert h
          exact fun h => by simp at h
         ·
          have hb19 := hb
          try simp only [hS, hE, ne_eq] at hb
          first | rw [if_pos hb19] at h | rw [if_neg (Bool.eq_false_iff.1 hb19)] at h | rw [if_pos hb] at h | rw [if_neg hb] at h | (simp only [hb, hT, reduceIte] at h) | skip
          refine AWp.skip ?_
          refine AWp.seq ?_
          refine W.kp [0, 1, 4, 5, 6, 7, 8, 9, 10, 11, 12, 13, 16, 27, 48, 49, 93] ?_
          refine AWp.region ?_
          refine L.Y Y.mv ?_
          rcases k with _ | k
          ·
           exact absurd h (by simp [laws_FnTablesOfRelations.j1])
          simp only [laws_FnTablesOfRelations.j1] at h
          replace h := Option.bind_eq_some_iff.1 h
          obtain ⟨⟨t671, t672⟩, hc20, h⟩ := h
          dsimp only at h
          refine L.C (C.callE (l := true) [] Tryd.func34 (spec_DrawCountChoices.ac _ _ _ hc20) .nil ?_)
          refine L.Y Y.mv ?_
          refine L.Y Y.ex ?_
          refine L.Y Y.ex ?_
          refine L.Y Y.asg ?_
          refine L.Y Y.asg ?_
          refine AList.nil ?_
          refine AWp.seq ?_
          refine W.kp [0, 1, 4, 5, 6, 7, 8, 9, 10, 11, 12, 13, 16, 17, 18, 27, 48, 49, 93] ?_
          refine AWp.region ?_
          refine L.Y Y.mv ?_
          refine L.Y Y.mv ?_
          replace h := Option.bind_eq_some_iff.1 h
          obtain ⟨⟨t673, t674⟩, hc21, h⟩ := h
          dsimp only at h
          refine L.C (C.callE (l := true) [] Tryd.func35 (impl_CountChoices.ac _ _ _ _ _ hc21) .nil ?_)
          refine L.Y Y.mv ?_
          refine L.Y Y.ex ?_
          refine L.Y Y.ex ?_
          refine L.Y Y.asg ?_
          refine L.Y Y.asg ?_
          refine AList.nil ?_
          refine AWp.seq ?_
          refine W.kp [0, 1, 4, 5, 6, 7, 8, 9, 10, 11, 12, 13, 16, 17, 18, 19, 20, 27, 48, 49, 93] ?_
          refine AWp.region ?_
          refine L.Y Y.mv ?_
          refine L.Y Y.mv ?_
          replace h := Option.bind_eq_some_iff.1 h
          obtain ⟨⟨t675, t676⟩, hc22, h⟩ := h
          dsimp only at h
          refine L.C (C.callE (l := true) [] Tryd.func36 (spec_CountChoices.ac _ _ _ _ _ hc22) .nil ?_)
          refine L.Y Y.mv ?_
          refine L.Y Y.ex ?_
          refine L.Y Y.ex ?_
          refine L.Y Y.asg ?_
          refine L.Y Y.asg ?_
          refine AList.nil ?_
          refine AWp.seq ?_
          refine W.kp [0, 1, 4, 5, 6, 7, 8, 9, 10, 11, 12, 13, 16, 17, 18, 19, 20, 21, 22, 27, 48, 49, 93] ?_
          refine AWp.region ?_
          refine L.Y Y.mv ?_
          refine L.Y Y.mv ?_
          replace h := Option.bind_eq_some_iff.1 h
          obtain ⟨⟨t677, t678⟩, hc23, h⟩ := h
          dsimp only at h
          refine L.C (C.callE (l := false) [] Tryd.func20 (impl_OrdersOf.ac _ _ _ _ _ hc23) .nil ?_)
          refine L.Y Y.mv ?_
          refine L.Y Y.ex ?_
          refine L.Y Y.ex ?_
          refine L.Y Y.asg ?_
          refine L.Y Y.asg ?_
          refine AList.nil ?_
          refine AWp.seq ?_
          refine AWp.seq ?_
          refine W.kp [0, 1, 4, 5, 6, 7, 8, 9, 10, 11, 12, 13, 16, 17, 18, 19, 20, 21, 22, 23, 24, 27, 48, 49, 93] ?_
          refine AWp.region ?_
          refine L.Y Y.mv ?_
          refine L.Y Y.mv ?_
          refine L.Y (Y.bb Tryd.underlying4) ?_
          refine L.Y Y.mv ?_
          refine L.Gc (fun hb => ?_) (fun hb => ?_)
          ·
           have hb24 := hb
           try simp only [hS, hE, ne_eq] at hb
           first | rw [if_pos hb24] at h | rw [if_neg (Bool.eq_false_iff.1 hb24)] at h | rw [if_pos hb] at h | rw [if_neg hb] at h | (simp only [hb, hT, reduceIte] at h) | skip
           exfalso
           revert h
           exact fun h => by simp at h
          ·
           have hb24 := hb
           try simp only [hS, hE, ne_eq] at hb
           first | rw [if_pos hb24] at h | rw [if_neg (Bool.eq_false_iff.1 hb24)] at h | rw [if_pos hb] at h | rw [if_neg hb] at h | (simp only [hb, hT, reduceIte] at h) | skip
           refine L.Gy hb24 Y.mv ?_
           refine L.Gy hb24 Y.mv ?_
           refine L.Gy hb24 Y.bin ?_
           refine L.Y (Y.pk (c := false) hb24) ?_
           refine L.Y Y.mv ?_
           refine L.Gc (fun hb => ?_) (fun hb => ?_)
           ·
            have hb25 := hb
            try simp only [hS, hE, ne_eq] at hb
            first | rw [if_pos hb25] at h | rw [if_neg (Bool.eq_false_iff.1 hb25)] at h | rw [if_pos hb] at h | rw [if_neg hb] at h | (simp only [hb, hT, reduceIte] at h) | skip
            exfalso
            revert h
            exact fun h => by simp at h
           ·
            have hb25 := hb
            try simp only [hS, hE, ne_eq] at hb
            first | rw [if_pos hb25] at h | rw [if_neg (Bool.eq_false_iff.1 hb25)] at h | rw [if_pos hb] at h | rw [if_neg hb] at h | (simp only [hb, hT, reduceIte] at h) | skip
            refine L.Gy hb25 Y.mv ?_
            refine L.Gy hb25 Y.mv ?_
            refine L.Gy hb25 (Y.bb Tryd.underlying4) ?_
            refine L.Y (Y.pk (c := false) hb25) ?_
            refine AList.nil ?_
            refine W.cond (fun hb => ?_) (fun hb => ?_)
            ·
             have hb26 := hb
             try simp only [hS, hE, ne_eq] at hb
             first | rw [if_pos hb26] at h | rw [if_neg (Bool.eq_false_iff.1 hb26)] at h | rw [if_pos hb] at h | rw [if_neg hb] at h | (simp only [hb, hT, reduceIte] at h) | skip
             exfalso
             revert h
             exact fun h => by simp at h
            ·
             have hb26 := hb
             try simp only [hS, hE, ne_eq] at hb
             first | rw [if_pos hb26] at h | rw [if_neg (Bool.eq_false_iff.1 hb26)] at h | rw [if_pos hb] at h | rw [if_neg hb] at h | (simp only [hb, hT, reduceIte] at h) | skip
             refine AWp.skip ?_
             refine AWp.seq ?_
             refine W.kp [0, 1, 4, 5, 6, 7, 8, 9, 10, 11, 12, 13, 16, 17, 18, 19, 20, 21, 22, 23, 24, 27, 48, 49, 93, 129] ?_
             refine AWp.region ?_
             refine L.Y Y.mv ?_
             refine L.Y Y.mv ?_
             refine L.Y (Y.ln Tryd.underlying39) ?_
             refine L.Y Y.bin ?_
             refine L.Y Y.asg ?_
             refine AList.nil ?_
             refine AWp.ret ?_
             first | (exfalso; cases h; done) | exact ⟨.inr rfl, [(4, _)], _, ⟨rfl, rfl⟩, IsPart.at [] [] base0 .nil (E.c .nil (hs := Sub.litE (LV h)))⟩
    ·
     have hb9 := hb
     try simp only [hS, hE, ne_eq] at hb
     first | rw [if_pos hb9] at h | rw [if_neg (Bool.eq_false_iff.1 hb9)] at h | rw [if_pos hb] at h | rw [if_neg hb] at h | (simp only [hb, hT, reduceIte] at h) | skip
     refine AWp.skip ?_
     refine AWp.seq ?_
     refine AWp.region ?_
     refine L.Y Y.mv ?_
     rcases k with _ | k
     ·
      exact absurd h (by simp [laws_FnTablesOfRelations.j1])
     simp only [laws_FnTablesOfRelations.j1] at h
     replace h := Option.bind_eq_some_iff.1 h
     obtain ⟨⟨t671, t672⟩, hc27, h⟩ := h
     dsimp only at h
     refine L.C (C.callE (l := true) [] Tryd.func34 (spec_DrawCountChoices.ac _ _ _ hc27) .nil ?_)
     refine L.Y Y.mv ?_
     refine L.Y Y.ex ?_
     refine L.Y Y.ex ?_
     refine L.Y Y.asg ?_
     refine L.Y Y.asg ?_
     refine AList.nil ?_
     refine AWp.seq ?_
     refine W.kp [0, 1, 4, 5, 6, 7, 8, 9, 17, 18, 27, 48, 49] ?_
     refine AWp.region ?_
     refine L.Y Y.mv ?_
     refine L.Y Y.mv ?_
     replace h := Option.bind_eq_some_iff.1 h
     obtain ⟨⟨t673, t674⟩, hc28, h⟩ := h
     dsimp only at h
     refine L.C (C.callE (l := true) [] Tryd.func35 (impl_CountChoices.ac _ _ _ _ _ hc28) .nil ?_)
     refine L.Y Y.mv ?_
     refine L.Y Y.ex ?_
     refine L.Y Y.ex ?_
     refine L.Y Y.asg ?_
     refine L.Y Y.asg ?_
     refine AList.nil ?_
     refine AWp.seq ?_
     refine W.kp [0, 1, 4, 5, 6, 7, 8, 9, 17, 18, 19, 20, 27, 48, 49] ?_
     refine AWp.region ?_
     refine L.Y Y.mv ?_
     refine L.Y Y.mv ?_
     replace h := Option.bind_eq_some_iff.1 h
     obtain ⟨⟨t675, t676⟩, hc29, h⟩ := h
     dsimp only at h
     refine L.C (C.callE (l := true) [] Tryd.func36 (spec_CountChoices.ac _ _ _ _ _ hc29) .nil ?_)
     refine L.Y Y.mv ?_
     refine L.Y Y.ex ?_
     refine L.Y Y.ex ?_
     refine L.Y Y.asg ?_
     refine L.Y Y.asg ?_
     refine AList.nil ?_
     refine AWp.seq ?_
     refine W.kp [0, 1, 4, 5, 6, 7, 8, 9, 17, 18, 19, 20, 21, 22, 27, 48, 49] ?_
     refine AWp.region ?_
     refine L.Y Y.mv ?_
     refine L.Y Y.mv ?_
     replace h := Option.bind_eq_some_iff.1 h
     obtain ⟨⟨t677, t678⟩, hc30, h⟩ := h
     dsimp only at h
     refine L.C (C.callE (l := false) [] Tryd.func20 (impl_OrdersOf.ac _ _ _ _ _ hc30) .nil ?_)
     refine L.Y Y.mv ?_
     refine L.Y Y.ex ?_
     refine L.Y Y.ex ?_
     refine L.Y Y.asg ?_
     refine L.Y Y.asg ?_
     refine AList.nil ?_
     refine AWp.seq ?_
     refine AWp.seq ?_
     refine W.kp [0, 1, 4, 5, 6, 7, 8, 9, 17, 18, 19, 20, 21, 22, 23, 24, 27, 48, 49] ?_
     refine AWp.region ?_
     refine L.Y Y.mv ?_
     refine L.Y Y.mv ?_
     refine L.Y (Y.bb Tryd.underlying4) ?_
     refine L.Y Y.mv ?_
     refine L.Gc (fun hb => ?_) (fun hb => ?_)
     ·
      have hb31 := hb
      try simp only [hS, hE, ne_eq] at hb
      first | rw [if_pos hb31] at h | rw [if_neg (Bool.eq_false_iff.1 hb31)] at h | rw [if_pos hb] at h | rw [if_neg hb] at h | (simp only [hb, hT, reduceIte] at h) | skip
      exfalso
      revert h
      exact fun h => by simp at h
     ·
      have hb31 := hb
      try simp only [hS, hE, ne_eq] at hb
      first | rw [if_pos hb31] at h | rw [if_neg (Bool.eq_false_iff.1 hb31)] at h | rw [if_pos hb] at h | rw [if_neg hb] at h | (simp only [hb, hT, reduceIte] at h) | skip
      refine L.Gy hb31 Y.mv ?_
      refine L.Gy hb31 Y.mv ?_
      refine L.Gy hb31 Y.bin ?_
      refine L.Y (Y.pk (c := false) hb31) ?_
      refine L.Y Y.mv ?_
      refine L.Gc (fun hb => ?_) (fun hb => ?_)
      ·
       have hb32 := hb
       try simp only [hS, hE, ne_eq] at hb
       first | rw [if_pos hb32] at h | rw [if_neg (Bool.eq_false_iff.1 hb32)] at h | rw [if_pos hb] at h | rw [if_neg hb] at h | (simp only [hb, hT, reduceIte] at h) | skip
       exfalso
       revert h
       exact fun h => by simp at h
      ·
       have hb32 := hb
       try simp only [hS, hE, ne_eq] at hb
       first | rw [if_pos hb32] at h | rw [if_neg (Bool.eq_false_iff.1 hb32)] at h | rw [if_pos hb] at h | rw [if_neg hb] at h | (simp only [hb, hT, reduceIte] at h) | skip
       refine L.Gy hb32 Y.mv ?_
       refine L.Gy hb32 Y.mv ?_
       refine L.Gy hb32 (Y.bb Tryd.underlying4) ?_
       refine L.Y (Y.pk (c := false) hb32) ?_
       refine AList.nil ?_
       refine W.cond (fun hb => ?_) (fun hb => ?_)
       ·
        have hb33 := hb
        try simp only [hS, hE, ne_eq] at hb
        first | rw [if_pos hb33] at h | rw [if_neg (Bool.eq_false_iff.1 hb33)] at h | rw [if_pos hb] at h | rw [if_neg hb] at h | (simp only [hb, hT, reduceIte] at h) | skip
        exfalso
        revert h
        exact fun h => by simp at h
       ·
        have hb33 := hb
        try simp only [hS, hE, ne_eq] at hb
        first | rw [if_pos hb33] at h | rw [if_neg (Bool.eq_false_iff.1 hb33)] at h | rw [if_pos hb] at h | rw [if_neg hb] at h | (simp only [hb, hT, reduceIte] at h) | skip
        refine AWp.skip ?_
        refine AWp.seq ?_
        refine W.kp [0, 1, 4, 5, 6, 7, 8, 9, 17, 18, 19, 20, 21, 22, 23, 24, 27, 48, 49, 129] ?_
        refine AWp.region ?_
        refine L.Y Y.mv ?_
        refine L.Y Y.mv ?_
        refine L.Y (Y.ln Tryd.underlying39) ?_
        refine L.Y Y.bin ?_
        refine L.Y Y.asg ?_
        refine AList.nil ?_
        refine AWp.ret ?_
        first | (exfalso; cases h; done) | exact ⟨.inr rfl, [(4, _)], _, ⟨rfl, rfl⟩, IsPart.at [] [] base0 .nil (E.c .nil (hs := Sub.litE (LV h)))⟩

/-- THE ONE PURE STATEMENT of laws_FnTablesOfRelations: yours. -/
def laws_FnTablesOfRelations.Pure : Prop := ∀ (l0 : List Int) (l1 : List Int), l0.length ≤ maxLen → l0.length * 1 ≤ 140737488351232 → (∀ x ∈ l0, (Lit.int .u8 x).wf = true) → l1.length ≤ maxLen → l1.length * 1 ≤ 140737488351232 → (∀ x ∈ l1, (Lit.int .u8 x).wf = true) → ∃ k, laws_FnTablesOfRelations.f k l0 l1 = some true
theorem laws_FnTablesOfRelations.walk (P : laws_FnTablesOfRelations.Pure) (a0 : Option Addr) (len0 cap0 : Nat) (z0 : List Int) (a1 : Option Addr) (len1 cap1 : Nat) (z1 : List Int) (w : World) (hT : TabIn w) (w0 : (a0 = none ∧ len0 = 0 ∧ cap0 = 0 ∧ z0 = []) ∨ ∃ x, a0 = some x ∧ len0 ≤ cap0 ∧ cap0 ≤ maxLen ∧ z0.length = cap0 ∧ (∀ i, i < z0.length → w.cell? (x.add i) = some (.int .u8 (z0.getD i 0))) ∧ ∀ n ∈ z0, (Lit.int .u8 n).wf = true) (y0 : len0 * 1 ≤ 140737488351232) (w1 : (a1 = none ∧ len1 = 0 ∧ cap1 = 0 ∧ z1 = []) ∨ ∃ x, a1 = some x ∧ len1 ≤ cap1 ∧ cap1 ≤ maxLen ∧ z1.length = cap1 ∧ (∀ i, i < z1.length → w.cell? (x.add i) = some (.int .u8 (z1.getD i 0))) ∧ ∀ n ∈ z1, (Lit.int .u8 n).wf = true) (y1 : len1 * 1 ≤ 140737488351232) :
  Calls Tryd.prog 5 #[.slice a0 len0 cap0, .slice a1 len1 cap1] w fun e w' => e = .returned (.bool true) ∧ Below w.heap.size w w' := by
 obtain ⟨hl0, hv0⟩ := VR.came (A0 := fun _ => .bool false) (H := []) w0
 obtain ⟨hm0, hw0⟩ := came_fits w0
 have y0' := y0
 rw [← hl0] at y0'
 obtain ⟨hl1, hv1⟩ := VR.came (A0 := fun _ => .bool false) (H := []) w1
 obtain ⟨hm1, hw1⟩ := came_fits w1
 have y1' := y1
 rw [← hl1] at y1'
 obtain ⟨k, h⟩ := P (z0.take len0) (z1.take len1) hm0 y0' hw0 hm1 y1' hw1
 refine ACalls.law (vs := [.slice a0 len0 cap0, .slice a1 len1 cap1]) (tabP_of hT) (laws_FnTablesOfRelations.ac k (z0.take len0) (z1.take len1) h) ?_
 repeat' first | assumption | exact VRs_nil | exact VR_lit | refine VRs_cons ?_ ?_ | refine VR_agg ?_

end Go.Proofs.YtakabmokpknknaaDoor.PFnTablesOfRelations
