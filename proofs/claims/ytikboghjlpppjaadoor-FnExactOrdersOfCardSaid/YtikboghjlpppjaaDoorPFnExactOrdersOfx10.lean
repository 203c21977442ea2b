-- Written by a program of this session's (wip/myprint2): the functions by the kit's print, the walks by awgen.py. Lean checks it.
import Derived.Test.YtikboghjlpppjaaDoorPFnExactOrdersOfx0
import Derived.Test.YtikboghjlpppjaaDoorPFnExactOrdersOfx4
import Derived.Test.YtikboghjlpppjaaDoorPFnExactOrdersOfx8
import Derived.Test.YtikboghjlpppjaaDoorPFnExactOrdersOfx9
namespace Go.Proofs.YtikboghjlpppjaaDoor.PFnExactOrdersOf
open Go.RowKit Go.Proofs.YtikboghjlpppjaaDoorW.PrintWords Go.Proofs.YtikboghjlpppjaaDoorW.PrintLast Go.Proofs.YtikboghjlpppjaaDoorW.PrintMore Go.Proofs.YtikboghjlpppjaaDoorM Go.Proofs.YtikboghjlpppjaaDoorA Go.Proofs.YtikboghjlpppjaaDoorT
attribute [local go_sem] max2_int min2_int max_two min_two max_three min_three max_four min_four   -- for this text's walks alone
set_option linter.unusedVariables false
set_option linter.unusedSimpArgs false

/-! ### laws_FnExactOrdersOf: function 3 -/
mutual
def laws_FnExactOrdersOf.j0 : Nat → Int → Int → List (S34) → Bool → List (S34) → Bool → Option (Bool)
 | 0, _, _, _, _, _, _ => none
 | k + 1, x0, x1, x5, x6, x7, x33 => if x33 = true then (some false) else ((laws_markOrderS.f k x7 1).bind fun bt383 => ((laws_heldOrderS.f k bt383.2 1).bind fun t385 => (if t385 < 0 then (some false) else (if t385 = bt383.1 then ((impl_OrdersOf.f k x0 x1).bind fun bt386 => ((laws_eqOrderS.f k bt386.1 x5).bind fun t390 => (if t390 = true then (laws_FnExactOrdersOf.j1 k bt383.2 bt383.1 (bt386.2 != x6)) else (laws_FnExactOrdersOf.j1 k bt383.2 bt383.1 true)))) else (some false)))))
def laws_FnExactOrdersOf.j1 : Nat → List (S34) → Int → Bool → Option (Bool)
 | 0, _, _, _ => none
 | k + 1, x7, x9, x59 => if x59 = true then (some false) else ((laws_heldOrderS.f k x7 1).bind fun t391 => (if t391 < 0 then (some false) else (if t391 = x9 then (some true) else (some false))))
end
def laws_FnExactOrdersOf.f (k : Nat) (a0 : Int) (a1 : Int) : Option (Bool) := (spec_OrdersOf.f k a0 a1).bind fun bt374 => ((impl_OrdersOf.f k a0 a1).bind fun bt378 => ((laws_eqOrderS.f k bt378.1 bt374.1).bind fun t382 => (if t382 = true then (laws_FnExactOrdersOf.j0 k a0 a1 bt374.1 bt374.2 bt378.1 (bt378.2 != bt374.2)) else (laws_FnExactOrdersOf.j0 k a0 a1 bt374.1 bt374.2 bt378.1 true))))
set_option maxRecDepth 100000 in
set_option maxHeartbeats 20000000 in
theorem laws_FnExactOrdersOf.ac (k : Nat) (a0 : Int) (a1 : Int)  (h : laws_FnExactOrdersOf.f k a0 a1 = some true) :
  ACalls Tryd.prog 3 [.lit (.int .i64 a0), .lit (.int .i64 a1)] [] (fun v H' => v = .lit (.bool true) ∧ H' = []) := by
 refine ACalls.ofP [4] Tryd.func3 rfl (by exact Nat.le_of_ble_eq_true rfl) rfl (by decide) ?_
 simp only [Tryd.ntmps3, env0, laws_FnExactOrdersOf.f] at h ⊢
 refine AWp.seq ?_
 refine AWp.region ?_
 refine L.Y Y.asg ?_
 refine AList.nil ?_
 refine AWp.seq ?_
 refine AWp.region ?_
 refine L.Y Y.mv ?_
 refine L.Y Y.mv ?_
 replace h := Option.bind_eq_some_iff.1 h
 obtain ⟨⟨t374, t377⟩, hc1, h⟩ := h
 dsimp only at h
 refine L.C (C.callE (l := false) [] Tryd.func4 (spec_OrdersOf.ac _ _ _ _ _ hc1) .nil ?_)
 refine L.Y Y.mv ?_
 refine L.Y Y.ex ?_
 refine L.Y Y.ex ?_
 refine L.Y Y.asg ?_
 refine L.Y Y.asg ?_
 refine AList.nil ?_
 refine AWp.seq ?_
 refine W.kp [0, 1, 4, 5, 6] ?_
 refine AWp.region ?_
 refine L.Y Y.mv ?_
 refine L.Y Y.mv ?_
 replace h := Option.bind_eq_some_iff.1 h
 obtain ⟨⟨t378, t379⟩, hc2, h⟩ := h
 dsimp only at h
 refine L.C (C.callE (l := true) [] Tryd.func5 (impl_OrdersOf.ac _ _ _ _ _ hc2) .nil ?_)
 refine L.Y Y.mv ?_
 refine L.Y Y.ex ?_
 refine L.Y Y.ex ?_
 refine L.Y Y.asg ?_
 refine L.Y Y.asg ?_
 refine AList.nil ?_
 refine AWp.seq ?_
 refine AWp.seq ?_
 refine W.kp [0, 1, 4, 5, 6, 7, 8] ?_
 refine AWp.region ?_
 refine L.Y Y.mv ?_
 refine L.Y Y.mv ?_
 replace h := Option.bind_eq_some_iff.1 h
 obtain ⟨t382, hc3, h⟩ := h
 refine L.C (C.callE (l := true) [] Tryd.func6 (laws_eqOrderS.ac _ _ _ _ hc3) .nil ?_)
 refine L.Y Y.nt ?_
 refine L.Y Y.mv ?_
 refine L.Gc (fun hb => ?_) (fun hb => ?_)
 ·
  have hb4 := hb
  try simp only [hS, hE, ne_eq] at hb
  first | rw [if_pos hb4] at h | rw [if_neg (Bool.eq_false_iff.1 hb4)] at h | rw [if_pos hb] at h | rw [if_neg hb] at h | (simp only [hb, hT, reduceIte] at h) | skip
  exfalso
  revert h
  exact fun h => by cases k <;> simp [laws_FnExactOrdersOf.j0] at h
 ·
  have hb4 := hb
  try simp only [hS, hE, ne_eq] at hb
  first | rw [if_pos hb4] at h | rw [if_neg (Bool.eq_false_iff.1 hb4)] at h | rw [if_pos hb] at h | rw [if_neg hb] at h | (simp only [hb, hT, reduceIte] at h) | skip
  refine L.Gy hb4 Y.mv ?_
  refine L.Gy hb4 Y.mv ?_
  refine L.Gy hb4 (Y.bb Tryd.underlying4) ?_
  refine L.Y (Y.pk (c := false) hb4) ?_
  refine AList.nil ?_
  rcases k with _ | k
  ·
   exact absurd h (by simp [laws_FnExactOrdersOf.j0])
  simp only [laws_FnExactOrdersOf.j0] at h
  refine W.cond (fun hb => ?_) (fun hb => ?_)
  ·
   have hb5 := hb
   try simp only [hS, hE, ne_eq] at hb
   first | rw [if_pos hb5] at h | rw [if_neg (Bool.eq_false_iff.1 hb5)] at h | rw [if_pos hb] at h | rw [if_neg hb] at h | (simp only [hb, hT, reduceIte] at h) | skip
   exfalso
   revert h
   exact fun h => by simp at h
  ·
   have hb5 := hb
   try simp only [hS, hE, ne_eq] at hb
   first | rw [if_pos hb5] at h | rw [if_neg (Bool.eq_false_iff.1 hb5)] at h | rw [if_pos hb] at h | rw [if_neg hb] at h | (simp only [hb, hT, reduceIte] at h) | skip
   refine AWp.skip ?_
   refine AWp.seq ?_
   refine W.kp [0, 1, 4, 5, 6, 7, 8, 33] ?_
   refine AWp.region ?_
   refine L.Y Y.asg ?_
   refine AList.nil ?_
   refine AWp.seq ?_
   refine AWp.region ?_
   refine L.Y Y.mv ?_
   refine L.Y Y.mv ?_
   replace h := Option.bind_eq_some_iff.1 h
   obtain ⟨⟨t383, t384⟩, hc6, h⟩ := h
   dsimp only at h
   have hl7 := laws_markOrderS.len _ _ _ _ _ hc6
   refine L.C (C.callE (l := true) [1] Tryd.func7 (laws_markOrderS.ac _ _ _ _ _ hc6) (H.c .nil) ?_)
   refine L.Y Y.asg ?_
   refine AList.nil ?_
   refine AWp.seq ?_
   refine AWp.region ?_
   refine L.Y Y.asg ?_
   refine AList.nil ?_
   refine AWp.seq ?_
   refine AWp.region ?_
   refine L.Y Y.mv ?_
   refine L.Y Y.mv ?_
   replace h := Option.bind_eq_some_iff.1 h
   obtain ⟨t385, hc8, h⟩ := h
   refine L.C (C.callE (l := true) [] Tryd.func8 (laws_heldOrderS.ac _ _ _ _ hc8) .nil ?_)
   refine L.Y Y.asg ?_
   refine AList.nil ?_
   refine AWp.seq ?_
   refine AWp.seq ?_
   refine W.kp [0, 1, 4, 5, 6, 7, 8, 9, 10, 33] ?_
   refine AWp.region ?_
   refine L.Y Y.mv ?_
   refine L.Y Y.bin ?_
   refine AList.nil ?_
   refine W.cond (fun hb => ?_) (fun hb => ?_)
   ·
    have hb9 := hb
    try simp only [hS, hE, ne_eq] at hb
    first | rw [if_pos hb9] at h | rw [if_neg (Bool.eq_false_iff.1 hb9)] at h | rw [if_pos hb] at h | rw [if_neg hb] at h | (simp only [hb, hT, reduceIte] at h) | skip
    exfalso
    revert h
    exact fun h => by simp at h
   ·
    have hb9 := hb
    try simp only [hS, hE, ne_eq] at hb
    first | rw [if_pos hb9] at h | rw [if_neg (Bool.eq_false_iff.1 hb9)] at h | rw [if_pos hb] at h | rw [if_neg hb] at h | (simp only [hb, hT, reduceIte] at h) | skip
    refine AWp.skip ?_
    refine AWp.seq ?_
    refine AWp.seq ?_
    refine AWp.region ?_
    refine L.Y Y.mv ?_
    refine L.Y Y.mv ?_
    refine L.Y Y.bin ?_
    refine AList.nil ?_
    refine W.cond (fun hb => ?_) (fun hb => ?_)
    ·
     have hb10 := hb
     try simp only [hS, hE, ne_eq] at hb
     first | rw [if_pos hb10] at h | rw [if_neg (Bool.eq_false_iff.1 hb10)] at h | rw [if_pos hb] at h | rw [if_neg hb] at h | (simp only [hb, hT, reduceIte] at h) | skip
     exfalso
     revert h
     exact fun h => by simp at h
    ·
     have hb10 := hb
     try simp only [hS, hE, ne_eq] at hb
     first | rw [if_pos hb10] at h | rw [if_neg (Bool.eq_false_iff.1 hb10)] at h | rw [if_pos hb] at h | rw [if_neg hb] at h | (simp only [hb, hT, reduceIte] at h) | skip
     refine AWp.skip ?_
     refine AWp.seq ?_
     refine AWp.region ?_
     refine L.Y Y.mv ?_
     refine L.Y Y.mv ?_
     replace h := Option.bind_eq_some_iff.1 h
     obtain ⟨⟨t386, t387⟩, hc11, h⟩ := h
     dsimp only at h
     refine L.C (C.callE (l := true) [] Tryd.func5 (impl_OrdersOf.ac _ _ _ _ _ hc11) .nil ?_)
     refine L.Y Y.mv ?_
     refine L.Y Y.ex ?_
     refine L.Y Y.ex ?_
     refine L.Y Y.asg ?_
     refine L.Y Y.asg ?_
     refine AList.nil ?_
     refine AWp.seq ?_
     refine AWp.seq ?_
     refine W.kp [0, 1, 4, 5, 6, 7, 8, 9, 10, 11, 12, 33, 41, 44] ?_
     refine AWp.region ?_
     refine L.Y Y.mv ?_
     refine L.Y Y.mv ?_
     replace h := Option.bind_eq_some_iff.1 h
     obtain ⟨t390, hc12, h⟩ := h
     refine L.C (C.callE (l := true) [] Tryd.func6 (laws_eqOrderS.ac _ _ _ _ hc12) .nil ?_)
     refine L.Y Y.nt ?_
     refine L.Y Y.mv ?_
     refine L.Gc (fun hb => ?_) (fun hb => ?_)
     ·
      have hb13 := hb
      try simp only [hS, hE, ne_eq] at hb
      first | rw [if_pos hb13] at h | rw [if_neg (Bool.eq_false_iff.1 hb13)] at h | rw [if_pos hb] at h | rw [if_neg hb] at h | (simp only [hb, hT, reduceIte] at h) | skip
      exfalso
      revert h
      exact fun h => by cases k <;> simp [laws_FnExactOrdersOf.j1] at h
     ·
      have hb13 := hb
      try simp only [hS, hE, ne_eq] at hb
      first | rw [if_pos hb13] at h | rw [if_neg (Bool.eq_false_iff.1 hb13)] at h | rw [if_pos hb] at h | rw [if_neg hb] at h | (simp only [hb, hT, reduceIte] at h) | skip
      refine L.Gy hb13 Y.mv ?_
      refine L.Gy hb13 Y.mv ?_
      refine L.Gy hb13 (Y.bb Tryd.underlying4) ?_
      refine L.Y (Y.pk (c := false) hb13) ?_
      refine AList.nil ?_
      rcases k with _ | k
      ·
       exact absurd h (by simp [laws_FnExactOrdersOf.j1])
      simp only [laws_FnExactOrdersOf.j1] at h
      refine W.cond (fun hb => ?_) (fun hb => ?_)
      ·
       have hb14 := hb
       try simp only [hS, hE, ne_eq] at hb
       first | rw [if_pos hb14] at h | rw [if_neg (Bool.eq_false_iff.1 hb14)] at h | rw [if_pos hb] at h | rw [if_neg hb] at h | (simp only [hb, hT, reduceIte] at h) | skip
       exfalso
       revert h
       exact fun h => by simp at h
      ·
       have hb14 := hb
       try simp only [hS, hE, ne_eq] at hb
       first | rw [if_pos hb14] at h | rw [if_neg (Bool.eq_false_iff.1 hb14)] at h | rw [if_pos hb] at h | rw [if_neg hb] at h | (simp only [hb, hT, reduceIte] at h) | skip
       refine AWp.skip ?_
       refine AWp.seq ?_
       refine W.kp [0, 1, 4, 5, 6, 7, 8, 9, 10, 11, 12, 33, 41, 44, 59] ?_
       refine AWp.region ?_
       refine L.Y Y.asg ?_
       refine AList.nil ?_
       refine AWp.seq ?_
       refine AWp.region ?_
       refine L.Y Y.mv ?_
       refine L.Y Y.mv ?_
       replace h := Option.bind_eq_some_iff.1 h
       obtain ⟨t391, hc15, h⟩ := h
       refine L.C (C.callE (l := true) [] Tryd.func8 (laws_heldOrderS.ac _ _ _ _ hc15) .nil ?_)
       refine L.Y Y.asg ?_
       refine AList.nil ?_
       refine AWp.seq ?_
       refine AWp.seq ?_
       refine AWp.region ?_
       refine L.Y Y.mv ?_
       refine L.Y Y.bin ?_
       refine AList.nil ?_
       refine W.cond (fun hb => ?_) (fun hb => ?_)
       ·
        have hb16 := hb
        try simp only [hS, hE, ne_eq] at hb
        first | rw [if_pos hb16] at h | rw [if_neg (Bool.eq_false_iff.1 hb16)] at h | rw [if_pos hb] at h | rw [if_neg hb] at h | (simp only [hb, hT, reduceIte] at h) | skip
        exfalso
        revert h
        exact fun h => by simp at h
       ·
        have hb16 := hb
        try simp only [hS, hE, ne_eq] at hb
        first | rw [if_pos hb16] at h | rw [if_neg (Bool.eq_false_iff.1 hb16)] at h | rw [if_pos hb] at h | rw [if_neg hb] at h | (simp only [hb, hT, reduceIte] at h) | skip
        refine AWp.skip ?_
        refine AWp.seq ?_
        refine AWp.seq ?_
        refine W.kp [0, 1, 4, 5, 6, 7, 8, 9, 10, 11, 12, 33, 41, 44, 59, 64] ?_
        refine AWp.region ?_
        refine L.Y Y.mv ?_
        refine L.Y Y.mv ?_
        refine L.Y Y.bin ?_
        refine AList.nil ?_
        refine W.cond (fun hb => ?_) (fun hb => ?_)
        ·
         have hb17 := hb
         try simp only [hS, hE, ne_eq] at hb
         first | rw [if_pos hb17] at h | rw [if_neg (Bool.eq_false_iff.1 hb17)] at h | rw [if_pos hb] at h | rw [if_neg hb] at h | (simp only [hb, hT, reduceIte] at h) | skip
         exfalso
         revert h
         exact fun h => by simp at h
        ·
         have hb17 := hb
         try simp only [hS, hE, ne_eq] at hb
         first | rw [if_pos hb17] at h | rw [if_neg (Bool.eq_false_iff.1 hb17)] at h | rw [if_pos hb] at h | rw [if_neg hb] at h | (simp only [hb, hT, reduceIte] at h) | skip
         refine AWp.skip ?_
         refine AWp.seq ?_
         refine AWp.region ?_
         refine L.Y Y.asg ?_
         refine AList.nil ?_
         refine AWp.ret ?_
         first | (exfalso; cases h; done) | exact ⟨.inr rfl, [(4, _)], _, ⟨rfl, rfl⟩, IsPart.at [] [] base0 .nil (E.c .nil (hs := Sub.litE (LV h)))⟩

/-- THE ONE PURE STATEMENT of laws_FnExactOrdersOf: yours. -/
def laws_FnExactOrdersOf.Pure : Prop := ∀ (a0 : Int) (a1 : Int), (Lit.int .i64 a0).wf = true → (Lit.int .i64 a1).wf = true → ∃ k, laws_FnExactOrdersOf.f k a0 a1 = some true
theorem laws_FnExactOrdersOf.walk (P : laws_FnExactOrdersOf.Pure) (a0 : Int) (a1 : Int) (w : World) (hT : TabIn w) (w0 : (Lit.int .i64 a0).wf = true) (w1 : (Lit.int .i64 a1).wf = true) :
  Calls Tryd.prog 3 #[.int .i64 a0, .int .i64 a1] w fun e w' => e = .returned (.bool true) ∧ Below w.heap.size w w' := by
 obtain ⟨k, h⟩ := P a0 a1 w0 w1
 refine ACalls.law (vs := [.int .i64 a0, .int .i64 a1]) (tabP_of hT) (laws_FnExactOrdersOf.ac k a0 a1 h) ?_
 repeat' first | assumption | exact VRs_nil | exact VR_lit | refine VRs_cons ?_ ?_ | refine VR_agg ?_

end Go.Proofs.YtikboghjlpppjaaDoor.PFnExactOrdersOf
