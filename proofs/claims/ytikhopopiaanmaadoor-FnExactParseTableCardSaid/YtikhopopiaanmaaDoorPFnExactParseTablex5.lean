-- Written by a program of this session's (wip/myprint2): the functions by the kit's print, the walks by awgen.py. Lean checks it.
import Derived.Test.YtikhopopiaanmaaDoorPFnExactParseTablex0
import Derived.Test.YtikhopopiaanmaaDoorPFnExactParseTablex2
import Derived.Test.YtikhopopiaanmaaDoorPFnExactParseTablex3
import Derived.Test.YtikhopopiaanmaaDoorPFnExactParseTablex4
namespace Go.Proofs.YtikhopopiaanmaaDoor.PFnExactParseTable
open Go.RowKit Go.Proofs.YtikhopopiaanmaaDoorW.PrintWords Go.Proofs.YtikhopopiaanmaaDoorW.PrintLast Go.Proofs.YtikhopopiaanmaaDoorW.PrintMore Go.Proofs.YtikhopopiaanmaaDoorM Go.Proofs.YtikhopopiaanmaaDoorA Go.Proofs.YtikhopopiaanmaaDoorT
attribute [local go_sem] max2_int min2_int max_two min_two max_three min_three max_four min_four   -- for this text's walks alone
set_option linter.unusedVariables false
set_option linter.unusedSimpArgs false

/-! ### laws_FnExactParseTable: function 3 -/
mutual
def laws_FnExactParseTable.j0 : Nat → ByteArray → Bool → Bool → Int → Int → List Int → Int → Int → List Int → Option (Bool)
 | 0, _, _, _, _, _, _, _, _, _ => none
 | k + 1, x0, x4, x32, x189000, x189001, x189002, x196000, x196001, x196002 => if x32 = true then (some false) else ((laws_markTable.f k x196000 x196001 x196002 1).bind fun bt197 => ((laws_heldTable.f k x196000 x196001 bt197.2 1).bind fun t199 => (if t199 < 0 then (some false) else (if t199 = bt197.1 then ((impl_ParseTable.f k x0).bind fun bt200 => ((laws_eqTable.f k bt200.1 bt200.2.1 bt200.2.2.1 x189000 x189001 x189002).bind fun t207 => (if t207 = true then (laws_FnExactParseTable.j1 k bt197.1 (bt200.2.2.2 != x4) x196000 x196001 bt197.2) else (laws_FnExactParseTable.j1 k bt197.1 true x196000 x196001 bt197.2)))) else (some false)))))
def laws_FnExactParseTable.j1 : Nat → Int → Bool → Int → Int → List Int → Option (Bool)
 | 0, _, _, _, _, _ => none
 | k + 1, x7, x57, x196000, x196001, x196002 => if x57 = true then (some false) else ((laws_heldTable.f k x196000 x196001 x196002 1).bind fun t208 => (if t208 < 0 then (some false) else (if t208 = x7 then (some true) else (some false))))
end
def laws_FnExactParseTable.f (k : Nat) (a0 : ByteArray) : Option (Bool) := if (a0.size : Int) > 1048576 then (some true) else ((spec_ParseTable.f k a0).bind fun bt182 => ((impl_ParseTable.f k a0).bind fun bt189 => ((laws_eqTable.f k bt189.1 bt189.2.1 bt189.2.2.1 bt182.1 bt182.2.1 bt182.2.2.1).bind fun t196 => (if t196 = true then (laws_FnExactParseTable.j0 k a0 bt182.2.2.2 (bt189.2.2.2 != bt182.2.2.2) bt182.1 bt182.2.1 bt182.2.2.1 bt189.1 bt189.2.1 bt189.2.2.1) else (laws_FnExactParseTable.j0 k a0 bt182.2.2.2 true bt182.1 bt182.2.1 bt182.2.2.1 bt189.1 bt189.2.1 bt189.2.2.1)))))
set_option maxRecDepth 100000 in
set_option maxHeartbeats 20000000 in
theorem laws_FnExactParseTable.ac (k : Nat) (a0 : ByteArray)  (h : laws_FnExactParseTable.f k a0 = some true) :
  ACalls Tryd.prog 3 [.lit (.string a0)] [] (fun v H' => v = .lit (.bool true) ∧ H' = []) := by
 refine ACalls.ofP [2] Tryd.func3 rfl (by exact Nat.le_of_ble_eq_true rfl) rfl (by decide) ?_
 simp only [Tryd.ntmps3, env0, laws_FnExactParseTable.f] at h ⊢
 refine AWp.seq ?_
 refine AWp.region ?_
 refine L.Y Y.asg ?_
 refine AList.nil ?_
 refine AWp.seq ?_
 refine AWp.seq ?_
 refine AWp.region ?_
 refine L.Y Y.mv ?_
 refine L.Y (Y.ls Tryd.underlying9) ?_
 refine L.Y Y.bin ?_
 refine AList.nil ?_
 refine W.cond (fun hb => ?_) (fun hb => ?_)
 ·
  have hb1 := hb
  try simp only [hS, hE, ne_eq] at hb
  first | rw [if_pos hb1] at h | rw [if_neg (Bool.eq_false_iff.1 hb1)] at h | rw [if_pos hb] at h | rw [if_neg hb] at h | (simp only [hb, hT, reduceIte] at h) | skip
  refine AWp.seq ?_
  refine AWp.region ?_
  refine L.Y Y.asg ?_
  refine AList.nil ?_
  refine AWp.ret ?_
  first | (exfalso; cases h; done) | exact ⟨.inr rfl, [(2, _)], _, ⟨rfl, rfl⟩, IsPart.at [] [] base0 .nil (E.c .nil (hs := Sub.litE (LV h)))⟩
 ·
  have hb1 := hb
  try simp only [hS, hE, ne_eq] at hb
  first | rw [if_pos hb1] at h | rw [if_neg (Bool.eq_false_iff.1 hb1)] at h | rw [if_pos hb] at h | rw [if_neg hb] at h | (simp only [hb, hT, reduceIte] at h) | skip
  refine AWp.skip ?_
  refine AWp.seq ?_
  refine AWp.region ?_
  refine L.Y Y.mv ?_
  replace h := Option.bind_eq_some_iff.1 h
  obtain ⟨⟨t182, t183, t184, t187⟩, hc2, h⟩ := h
  dsimp only at h
  refine L.C (C.callE (l := true) [] Tryd.func4 (spec_ParseTable.ac _ _ _ _ _ _ hc2) .nil ?_)
  refine L.Y Y.mv ?_
  refine L.Y Y.ex ?_
  refine L.Y Y.ex ?_
  refine L.M (M.al Y24) ?_
  refine L.S (S.stb Y24) ?_
  refine L.Y Y.asg ?_
  refine AList.nil ?_
  refine AWp.seq ?_
  refine W.kp [0, 2, 3, 4, 13] ?_
  refine AWp.region ?_
  refine L.Y Y.mv ?_
  replace h := Option.bind_eq_some_iff.1 h
  obtain ⟨⟨t189, t190, t191, t194⟩, hc3, h⟩ := h
  dsimp only at h
  refine L.C (C.callE (l := true) [] Tryd.func5 (impl_ParseTable.ac _ _ _ _ _ _ hc3) .nil ?_)
  refine L.Y Y.mv ?_
  refine L.Y Y.ex ?_
  refine L.Y Y.ex ?_
  refine L.M (M.al Y24) ?_
  refine L.S (S.stb Y24) ?_
  refine L.Y Y.asg ?_
  refine AList.nil ?_
  refine AWp.seq ?_
  refine AWp.seq ?_
  refine W.kp [0, 2, 3, 4, 5, 6, 13] ?_
  refine AWp.region ?_
  refine L.S (S.ldN Tryd.underlying24 Y24) ?_
  refine L.S (S.ldN Tryd.underlying24 Y24) ?_
  replace h := Option.bind_eq_some_iff.1 h
  obtain ⟨t196, hc4, h⟩ := h
  refine L.C (C.callE (l := true) [] Tryd.func6 (laws_eqTable.ac _ _ _ _ _ _ _ _ hc4) .nil ?_)
  refine L.Y Y.nt ?_
  refine L.Y Y.mv ?_
  refine L.Gc (fun hb => ?_) (fun hb => ?_)
  ·
   have hb5 := hb
   try simp only [hS, hE, ne_eq] at hb
   first | rw [if_pos hb5] at h | rw [if_neg (Bool.eq_false_iff.1 hb5)] at h | rw [if_pos hb] at h | rw [if_neg hb] at h | (simp only [hb, hT, reduceIte] at h) | skip
   exfalso
   revert h
   exact fun h => by cases k <;> simp [laws_FnExactParseTable.j0] at h
  ·
   have hb5 := hb
   try simp only [hS, hE, ne_eq] at hb
   first | rw [if_pos hb5] at h | rw [if_neg (Bool.eq_false_iff.1 hb5)] at h | rw [if_pos hb] at h | rw [if_neg hb] at h | (simp only [hb, hT, reduceIte] at h) | skip
   refine L.Gy hb5 Y.mv ?_
   refine L.Gy hb5 Y.mv ?_
   refine L.Gy hb5 (Y.bb Tryd.underlying4) ?_
   refine L.Y (Y.pk (c := false) hb5) ?_
   refine AList.nil ?_
   rcases k with _ | k
   ·
    exact absurd h (by simp [laws_FnExactParseTable.j0])
   simp only [laws_FnExactParseTable.j0] at h
   refine W.cond (fun hb => ?_) (fun hb => ?_)
   ·
    have hb6 := hb
    try simp only [hS, hE, ne_eq] at hb
    first | rw [if_pos hb6] at h | rw [if_neg (Bool.eq_false_iff.1 hb6)] at h | rw [if_pos hb] at h | rw [if_neg hb] at h | (simp only [hb, hT, reduceIte] at h) | skip
    exfalso
    revert h
    exact fun h => by simp at h
   ·
    have hb6 := hb
    try simp only [hS, hE, ne_eq] at hb
    first | rw [if_pos hb6] at h | rw [if_neg (Bool.eq_false_iff.1 hb6)] at h | rw [if_pos hb] at h | rw [if_neg hb] at h | (simp only [hb, hT, reduceIte] at h) | skip
    refine AWp.skip ?_
    refine AWp.seq ?_
    refine W.kp [0, 2, 3, 4, 5, 6, 13, 32] ?_
    refine AWp.region ?_
    refine L.Y Y.asg ?_
    refine AList.nil ?_
    refine AWp.seq ?_
    refine AWp.region ?_
    refine L.S (S.ldN Tryd.underlying24 Y24) ?_
    refine L.Y Y.mv ?_
    replace h := Option.bind_eq_some_iff.1 h
    obtain ⟨⟨t197, t198⟩, hc7, h⟩ := h
    dsimp only at h
    have hl8 := laws_markTable.len _ _ _ _ _ _ _ hc7
    refine L.C (C.callE (l := true) [2] Tryd.func7 (laws_markTable.ac _ _ _ _ _ _ _ hc7) (H.c .nil) ?_)
    refine L.Y Y.asg ?_
    refine AList.nil ?_
    refine AWp.seq ?_
    refine AWp.region ?_
    refine L.Y Y.asg ?_
    refine AList.nil ?_
    refine AWp.seq ?_
    refine AWp.region ?_
    refine L.S (S.ldN Tryd.underlying24 Y24) ?_
    refine L.Y Y.mv ?_
    replace h := Option.bind_eq_some_iff.1 h
    obtain ⟨t199, hc9, h⟩ := h
    refine L.C (C.callE (l := true) [] Tryd.func8 (laws_heldTable.ac _ _ _ _ _ _ hc9) .nil ?_)
    refine L.Y Y.asg ?_
    refine AList.nil ?_
    refine AWp.seq ?_
    refine AWp.seq ?_
    refine W.kp [0, 2, 3, 4, 5, 6, 7, 8, 13, 32] ?_
    refine AWp.region ?_
    refine L.Y Y.mv ?_
    refine L.Y Y.bin ?_
    refine AList.nil ?_
    refine W.cond (fun hb => ?_) (fun hb => ?_)
    ·
     have hb10 := hb
     try simp only [hS, hE, ne_eq] at hb
     first | rw [if_pos hb10] at h | rw [if_neg (Bool.eq_false_iff.1 hb10)] at h | rw [if_pos hb] at h | rw [if_neg hb] at h | (simp only [hb, hT, reduceIte] at h) | skip
     exfalso
     revert h
     exact fun h => by simp at h
    ·
     have hb10 := hb
     try simp only [hS, hE, ne_eq] at hb
     first | rw [if_pos hb10] at h | rw [if_neg (Bool.eq_false_iff.1 hb10)] at h | rw [if_pos hb] at h | rw [if_neg hb] at h | (simp only [hb, hT, reduceIte] at h) | skip
     refine AWp.skip ?_
     refine AWp.seq ?_
     refine AWp.seq ?_
     refine AWp.region ?_
     refine L.Y Y.mv ?_
     refine L.Y Y.mv ?_
     refine L.Y Y.bin ?_
     refine AList.nil ?_
     refine W.cond (fun hb => ?_) (fun hb => ?_)
     ·
      have hb11 := hb
      try simp only [hS, hE, ne_eq] at hb
      first | rw [if_pos hb11] at h | rw [if_neg (Bool.eq_false_iff.1 hb11)] at h | rw [if_pos hb] at h | rw [if_neg hb] at h | (simp only [hb, hT, reduceIte] at h) | skip
      exfalso
      revert h
      exact fun h => by simp at h
     ·
      have hb11 := hb
      try simp only [hS, hE, ne_eq] at hb
      first | rw [if_pos hb11] at h | rw [if_neg (Bool.eq_false_iff.1 hb11)] at h | rw [if_pos hb] at h | rw [if_neg hb] at h | (simp only [hb, hT, reduceIte] at h) | skip
      refine AWp.skip ?_
      refine AWp.seq ?_
      refine AWp.region ?_
      refine L.Y Y.mv ?_
      replace h := Option.bind_eq_some_iff.1 h
      obtain ⟨⟨t200, t201, t202, t205⟩, hc12, h⟩ := h
      dsimp only at h
      refine L.C (C.callE (l := true) [] Tryd.func5 (impl_ParseTable.ac _ _ _ _ _ _ hc12) .nil ?_)
      refine L.Y Y.mv ?_
      refine L.Y Y.ex ?_
      refine L.Y Y.ex ?_
      refine L.M (M.al Y24) ?_
      refine L.S (S.stb Y24) ?_
      refine L.Y Y.asg ?_
      refine AList.nil ?_
      refine AWp.seq ?_
      refine AWp.seq ?_
      refine W.kp [0, 2, 3, 4, 5, 6, 7, 8, 9, 10, 13, 32, 40, 43] ?_
      refine AWp.region ?_
      refine L.S (S.ldN Tryd.underlying24 Y24) ?_
      refine L.S (S.ldN Tryd.underlying24 Y24) ?_
      replace h := Option.bind_eq_some_iff.1 h
      obtain ⟨t207, hc13, h⟩ := h
      refine L.C (C.callE (l := true) [] Tryd.func6 (laws_eqTable.ac _ _ _ _ _ _ _ _ hc13) .nil ?_)
      refine L.Y Y.nt ?_
      refine L.Y Y.mv ?_
      refine L.Gc (fun hb => ?_) (fun hb => ?_)
      ·
       have hb14 := hb
       try simp only [hS, hE, ne_eq] at hb
       first | rw [if_pos hb14] at h | rw [if_neg (Bool.eq_false_iff.1 hb14)] at h | rw [if_pos hb] at h | rw [if_neg hb] at h | (simp only [hb, hT, reduceIte] at h) | skip
       exfalso
       revert h
       exact fun h => by cases k <;> simp [laws_FnExactParseTable.j1] at h
      ·
       have hb14 := hb
       try simp only [hS, hE, ne_eq] at hb
       first | rw [if_pos hb14] at h | rw [if_neg (Bool.eq_false_iff.1 hb14)] at h | rw [if_pos hb] at h | rw [if_neg hb] at h | (simp only [hb, hT, reduceIte] at h) | skip
       refine L.Gy hb14 Y.mv ?_
       refine L.Gy hb14 Y.mv ?_
       refine L.Gy hb14 (Y.bb Tryd.underlying4) ?_
       refine L.Y (Y.pk (c := false) hb14) ?_
       refine AList.nil ?_
       rcases k with _ | k
       ·
        exact absurd h (by simp [laws_FnExactParseTable.j1])
       simp only [laws_FnExactParseTable.j1] at h
       refine W.cond (fun hb => ?_) (fun hb => ?_)
       ·
        have hb15 := hb
        try simp only [hS, hE, ne_eq] at hb
        first | rw [if_pos hb15] at h | rw [if_neg (Bool.eq_false_iff.1 hb15)] at h | rw [if_pos hb] at h | rw [if_neg hb] at h | (simp only [hb, hT, reduceIte] at h) | skip
        exfalso
        revert h
        exact fun h => by simp at h
       ·
        have hb15 := hb
        try simp only [hS, hE, ne_eq] at hb
        first | rw [if_pos hb15] at h | rw [if_neg (Bool.eq_false_iff.1 hb15)] at h | rw [if_pos hb] at h | rw [if_neg hb] at h | (simp only [hb, hT, reduceIte] at h) | skip
        refine AWp.skip ?_
        refine AWp.seq ?_
        refine W.kp [0, 2, 3, 4, 5, 6, 7, 8, 9, 10, 13, 32, 40, 43, 57] ?_
        refine AWp.region ?_
        refine L.Y Y.asg ?_
        refine AList.nil ?_
        refine AWp.seq ?_
        refine AWp.region ?_
        refine L.S (S.ldN Tryd.underlying24 Y24) ?_
        refine L.Y Y.mv ?_
        replace h := Option.bind_eq_some_iff.1 h
        obtain ⟨t208, hc16, h⟩ := h
        refine L.C (C.callE (l := true) [] Tryd.func8 (laws_heldTable.ac _ _ _ _ _ _ hc16) .nil ?_)
        refine L.Y Y.asg ?_
        refine AList.nil ?_
        refine AWp.seq ?_
        refine AWp.seq ?_
        refine AWp.region ?_
        refine L.Y Y.mv ?_
        refine L.Y Y.bin ?_
        refine AList.nil ?_
        refine W.cond (fun hb => ?_) (fun hb => ?_)
        ·
         have hb17 := hb
         try simp only [hS, hE, ne_eq] at hb
         first | rw [if_pos hb17] at h | rw [if_neg (Bool.eq_false_iff.1 hb17)] at h | rw [if_pos hb] at h | rw [if_neg hb] at h | (simp only [hb, hT, reduceIte] at h) | skip
         exfalso
         revert h
         exact fun h => by simp at h
        ·
         have hb17 := hb
         try simp only [hS, hE, ne_eq] at hb
         first | rw [if_pos hb17] at h | rw [if_neg (Bool.eq_false_iff.1 hb17)] at h | rw [if_pos hb] at h | rw [if_neg hb] at h | (simp only [hb, hT, reduceIte] at h) | skip
         refine AWp.skip ?_
         refine AWp.seq ?_
         refine AWp.seq ?_
         refine W.kp [0, 2, 3, 4, 5, 6, 7, 8, 9, 10, 13, 32, 40, 43, 57, 62] ?_
         refine AWp.region ?_
         refine L.Y Y.mv ?_
         refine L.Y Y.mv ?_
         refine L.Y Y.bin ?_
         refine AList.nil ?_
         refine W.cond (fun hb => ?_) (fun hb => ?_)
         ·
          have hb18 := hb
          try simp only [hS, hE, ne_eq] at hb
          first | rw [if_pos hb18] at h | rw [if_neg (Bool.eq_false_iff.1 hb18)] at h | rw [if_pos hb] at h | rw [if_neg hb] at h | (simp only [hb, hT, reduceIte] at h) | skip
          exfalso
          revert h
          exact fun h => by simp at h
         ·
          have hb18 := hb
          try simp only [hS, hE, ne_eq] at hb
          first | rw [if_pos hb18] at h | rw [if_neg (Bool.eq_false_iff.1 hb18)] at h | rw [if_pos hb] at h | rw [if_neg hb] at h | (simp only [hb, hT, reduceIte] at h) | skip
          refine AWp.skip ?_
          refine AWp.seq ?_
          refine AWp.region ?_
          refine L.Y Y.asg ?_
          refine AList.nil ?_
          refine AWp.ret ?_
          first | (exfalso; cases h; done) | exact ⟨.inr rfl, [(2, _)], _, ⟨rfl, rfl⟩, IsPart.at [] [] base0 .nil (E.c .nil (hs := Sub.litE (LV h)))⟩

/-- THE ONE PURE STATEMENT of laws_FnExactParseTable: yours. -/
def laws_FnExactParseTable.Pure : Prop := ∀ (a0 : ByteArray), a0.size ≤ 140737488351232 → ∃ k, laws_FnExactParseTable.f k a0 = some true
theorem laws_FnExactParseTable.walk (P : laws_FnExactParseTable.Pure) (a0 : ByteArray) (w : World) (hT : TabIn w) (w0 : a0.size ≤ 140737488351232) :
  Calls Tryd.prog 3 #[.string a0] w fun e w' => e = .returned (.bool true) ∧ Below w.heap.size w w' := by
 obtain ⟨k, h⟩ := P a0 w0
 refine ACalls.law (vs := [.string a0]) (tabP_of hT) (laws_FnExactParseTable.ac k a0 h) ?_
 repeat' first | assumption | exact VRs_nil | exact VR_lit | refine VRs_cons ?_ ?_ | refine VR_agg ?_

end Go.Proofs.YtikhopopiaanmaaDoor.PFnExactParseTable
