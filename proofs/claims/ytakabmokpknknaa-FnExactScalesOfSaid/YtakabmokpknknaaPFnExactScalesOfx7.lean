-- Written by a program of this session's (wip/myprint2): the functions by the kit's print, the walks by awgen.py. Lean checks it.
import Derived.Test.YtakabmokpknknaaPFnExactScalesOfx0
import Derived.Test.YtakabmokpknknaaPFnExactScalesOfx1
import Derived.Test.YtakabmokpknknaaPFnExactScalesOfx3
import Derived.Test.YtakabmokpknknaaPFnExactScalesOfx6
namespace Go.Proofs.Ytakabmokpknknaa.PFnExactScalesOf
open Go.RowKit Go.Proofs.YtakabmokpknknaaW.PrintWords Go.Proofs.YtakabmokpknknaaW.PrintLast Go.Proofs.YtakabmokpknknaaW.PrintMore Go.Proofs.YtakabmokpknknaaM Go.Proofs.YtakabmokpknknaaA
attribute [local go_sem] max2_int min2_int max_two min_two max_three min_three max_four min_four   -- for this text's walks alone
set_option linter.unusedVariables false
set_option linter.unusedSimpArgs false

/-! ### laws_FnExactScalesOf: function 4 -/
mutual
def laws_FnExactScalesOf.j0 : Nat → List Int → List Int → Bool → List Int → List Int → Bool → Bool → Int → Int → List Int → Int → Int → List Int → Option (Bool)
 | 0, _, _, _, _, _, _, _, _, _, _, _, _, _ => none
 | k + 1, x4, x5, x6, x8, x9, x10, x51, x236000, x236001, x236002, x255000, x255001, x255002 => if x51 = true then (some false) else ((laws_toTable.f k x236000 x236001 x236002).bind fun bt264 => ((laws_eqTable.f k x255000 x255001 x255002 bt264.1 bt264.2.1 bt264.2.2).bind fun t269 => (if t269 = true then ((laws_markTable.f k x255000 x255001 x255002 1).bind fun bt270 => (if bt270.1 < 0 then (laws_FnExactScalesOf.j1 k x4 x5 x6 x8 x9 true x236000 x236001 x236002) else ((laws_eqIntS.f k x8 x4).bind fun t272 => (if t272 = true then ((laws_eqIntS.f k x9 x5).bind fun t273 => (if t273 = true then (laws_FnExactScalesOf.j1 k x4 x5 x6 x8 x9 (x10 != x6) x236000 x236001 x236002) else (laws_FnExactScalesOf.j1 k x4 x5 x6 x8 x9 true x236000 x236001 x236002))) else (laws_FnExactScalesOf.j1 k x4 x5 x6 x8 x9 true x236000 x236001 x236002))))) else (some false))))
def laws_FnExactScalesOf.j1 : Nat → List Int → List Int → Bool → List Int → List Int → Bool → Int → Int → List Int → Option (Bool)
 | 0, _, _, _, _, _, _, _, _, _ => none
 | k + 1, x4, x5, x6, x8, x9, x78, x236000, x236001, x236002 => if x78 = true then (some false) else ((laws_markIntS.f k x8 1).bind fun bt274 => ((laws_markIntS.f k x9 bt274.1).bind fun bt276 => ((laws_heldIntS.f k bt274.2 1).bind fun t278 => (if t278 < 0 then (some false) else ((laws_heldIntS.f k bt276.2 t278).bind fun t279 => (if t279 < 0 then (some false) else (if t279 = bt276.1 then ((laws_toTable.f k x236000 x236001 x236002).bind fun bt280 => ((impl_ScalesOf.f k bt280.1 bt280.2.1 bt280.2.2).bind fun bt285 => ((laws_eqIntS.f k bt285.1 x4).bind fun t292 => (if t292 = true then ((laws_eqIntS.f k bt285.2.1 x5).bind fun t293 => (if t293 = true then (laws_FnExactScalesOf.j2 k bt274.2 bt276.2 bt276.1 (bt285.2.2 != x6)) else (laws_FnExactScalesOf.j2 k bt274.2 bt276.2 bt276.1 true))) else (laws_FnExactScalesOf.j2 k bt274.2 bt276.2 bt276.1 true))))) else (some false))))))))
def laws_FnExactScalesOf.j2 : Nat → List Int → List Int → Int → Bool → Option (Bool)
 | 0, _, _, _, _ => none
 | k + 1, x8, x9, x12, x119 => if x119 = true then (some false) else ((laws_heldIntS.f k x8 1).bind fun t294 => (if t294 < 0 then (some false) else ((laws_heldIntS.f k x9 t294).bind fun t295 => (if t295 < 0 then (some false) else (if t295 = x12 then (some true) else (some false))))))
end
def laws_FnExactScalesOf.f (k : Nat) (a0_0 : Int) (a0_1 : Int) (l0_2 : List Int) : Option (Bool) := (laws_szTable.f a0_0 a0_1 l0_2 1048576).bind fun t236 => (if t236 < 0 then (some true) else ((laws_toTable.f k a0_0 a0_1 l0_2).bind fun bt237 => ((spec_ScalesOf.f k bt237.1 bt237.2.1 bt237.2.2).bind fun bt242 => ((laws_toTable.f k a0_0 a0_1 l0_2).bind fun bt249 => ((impl_ScalesOf.f k bt249.1 bt249.2.1 bt249.2.2).bind fun bt255 => ((laws_eqIntS.f k bt255.1 bt242.1).bind fun t262 => (if t262 = true then ((laws_eqIntS.f k bt255.2.1 bt242.2.1).bind fun t263 => (if t263 = true then (laws_FnExactScalesOf.j0 k bt242.1 bt242.2.1 bt242.2.2 bt255.1 bt255.2.1 bt255.2.2 (bt255.2.2 != bt242.2.2) a0_0 a0_1 l0_2 bt249.1 bt249.2.1 bt249.2.2) else (laws_FnExactScalesOf.j0 k bt242.1 bt242.2.1 bt242.2.2 bt255.1 bt255.2.1 bt255.2.2 true a0_0 a0_1 l0_2 bt249.1 bt249.2.1 bt249.2.2))) else (laws_FnExactScalesOf.j0 k bt242.1 bt242.2.1 bt242.2.2 bt255.1 bt255.2.1 bt255.2.2 true a0_0 a0_1 l0_2 bt249.1 bt249.2.1 bt249.2.2))))))))
set_option maxRecDepth 100000 in
set_option maxHeartbeats 20000000 in
theorem laws_FnExactScalesOf.ac (k : Nat) (a0_0 : Int) (a0_1 : Int) (l0_2 : List Int)  (h : laws_FnExactScalesOf.f k a0_0 a0_1 l0_2 = some true) :
  ACalls Try.prog 4 [.agg [.lit (.int .i64 a0_0), .lit (.int .i64 a0_1), .row 1 l0_2.length false (ints .i64 l0_2)]] [] (fun v H' => v = .lit (.bool true) ∧ H' = []) := by
 refine ACalls.ofP [2] Try.func4 rfl (by exact Nat.le_of_ble_eq_true rfl) rfl (by decide) ?_
 simp only [Try.ntmps4, env0, laws_FnExactScalesOf.f] at h ⊢
 refine AWp.seq ?_
 refine AWp.region ?_
 refine L.M M.bx ?_
 refine L.Y Y.asg ?_
 refine AList.nil ?_
 refine AWp.seq ?_
 refine AWp.region ?_
 refine L.Y Y.asg ?_
 refine AList.nil ?_
 refine AWp.seq ?_
 refine AWp.region ?_
 refine L.S (S.ldN Try.underlying24 Y24) ?_
 refine L.Y Y.mv ?_
 replace h := Option.bind_eq_some_iff.1 h
 obtain ⟨t236, hc1, h⟩ := h
 refine L.C (C.callE (l := true) [] Try.func6 (laws_szTable.ac _ _ _ _ _ hc1) .nil ?_)
 refine L.Y Y.asg ?_
 refine AList.nil ?_
 refine AWp.seq ?_
 refine AWp.seq ?_
 refine AWp.region ?_
 refine L.Y Y.mv ?_
 refine L.Y Y.bin ?_
 refine AList.nil ?_
 refine W.cond (fun hb => ?_) (fun hb => ?_)
 ·
  have hb2 := hb
  try simp only [hS, hE, ne_eq] at hb
  first | rw [if_pos hb2] at h | rw [if_neg (Bool.eq_false_iff.1 hb2)] at h | rw [if_pos hb] at h | rw [if_neg hb] at h | (simp only [hb, hT, reduceIte] at h) | skip
  refine AWp.seq ?_
  refine W.kp [0, 1, 2, 3, 21] ?_
  refine AWp.region ?_
  refine L.Y Y.asg ?_
  refine AList.nil ?_
  refine AWp.ret ?_
  first | (exfalso; cases h; done) | exact ⟨.inr rfl, [(2, _)], _, ⟨rfl, rfl⟩, IsPart.at [] [] base0 .nil (E.c .nil (hs := Sub.litE (LV h)))⟩
 ·
  have hb2 := hb
  try simp only [hS, hE, ne_eq] at hb
  first | rw [if_pos hb2] at h | rw [if_neg (Bool.eq_false_iff.1 hb2)] at h | rw [if_pos hb] at h | rw [if_neg hb] at h | (simp only [hb, hT, reduceIte] at h) | skip
  refine AWp.skip ?_
  refine AWp.seq ?_
  refine W.kp [0, 1, 2, 3, 21] ?_
  refine AWp.region ?_
  refine L.S (S.ldN Try.underlying24 Y24) ?_
  replace h := Option.bind_eq_some_iff.1 h
  obtain ⟨⟨t237, t238, t239⟩, hc3, h⟩ := h
  dsimp only at h
  refine L.C (C.callE (l := true) [] Try.func8 (laws_toTable.ac _ _ _ _ _ _ _ hc3) .nil ?_)
  replace h := Option.bind_eq_some_iff.1 h
  obtain ⟨⟨t242, t245, t248⟩, hc4, h⟩ := h
  dsimp only at h
  refine L.C (C.callE (l := true) [] Try.func13 (spec_ScalesOf.ac _ _ _ _ _ _ _ hc4) .nil ?_)
  refine L.Y Y.mv ?_
  refine L.Y Y.ex ?_
  refine L.Y Y.ex ?_
  refine L.Y Y.ex ?_
  refine L.Y Y.asg ?_
  refine L.Y Y.asg ?_
  refine L.Y Y.asg ?_
  refine AList.nil ?_
  refine AWp.seq ?_
  refine W.kp [0, 1, 2, 3, 4, 5, 6, 21] ?_
  refine AWp.region ?_
  refine L.S (S.ldN Try.underlying24 Y24) ?_
  replace h := Option.bind_eq_some_iff.1 h
  obtain ⟨⟨t249, t250, t251⟩, hc5, h⟩ := h
  dsimp only at h
  refine L.C (C.callE (l := true) [] Try.func8 (laws_toTable.ac _ _ _ _ _ _ _ hc5) .nil ?_)
  refine L.M (M.al Y26) ?_
  refine L.S (S.stb Y26) ?_
  refine AList.nil ?_
  refine AWp.seq ?_
  refine AWp.region ?_
  refine L.S (S.ldN Try.underlying26 Y26) ?_
  replace h := Option.bind_eq_some_iff.1 h
  obtain ⟨⟨t255, t258, t261⟩, hc6, h⟩ := h
  dsimp only at h
  refine L.C (C.callE (l := true) [] Try.func14 (impl_ScalesOf.ac _ _ _ _ _ _ _ hc6) .nil ?_)
  refine L.Y Y.mv ?_
  refine L.Y Y.ex ?_
  refine L.Y Y.ex ?_
  refine L.Y Y.ex ?_
  refine L.Y Y.asg ?_
  refine L.Y Y.asg ?_
  refine L.Y Y.asg ?_
  refine AList.nil ?_
  refine AWp.seq ?_
  refine AWp.seq ?_
  refine W.kp [0, 1, 2, 3, 4, 5, 6, 7, 8, 9, 10, 21] ?_
  refine AWp.region ?_
  refine L.Y Y.mv ?_
  refine L.Y Y.mv ?_
  replace h := Option.bind_eq_some_iff.1 h
  obtain ⟨t262, hc7, h⟩ := h
  refine L.C (C.callE (l := true) [] Try.func15 (laws_eqIntS.ac _ _ _ _ hc7) .nil ?_)
  refine L.Y Y.nt ?_
  refine L.Y Y.mv ?_
  refine L.Gc (fun hb => ?_) (fun hb => ?_)
  ·
   have hb8 := hb
   try simp only [hS, hE, ne_eq] at hb
   first | rw [if_pos hb8] at h | rw [if_neg (Bool.eq_false_iff.1 hb8)] at h | rw [if_pos hb] at h | rw [if_neg hb] at h | (simp only [hb, hT, reduceIte] at h) | skip
   exfalso
   revert h
   exact fun h => by cases k <;> simp [laws_FnExactScalesOf.j0] at h
  ·
   have hb8 := hb
   try simp only [hS, hE, ne_eq] at hb
   first | rw [if_pos hb8] at h | rw [if_neg (Bool.eq_false_iff.1 hb8)] at h | rw [if_pos hb] at h | rw [if_neg hb] at h | (simp only [hb, hT, reduceIte] at h) | skip
   refine L.Gy hb8 Y.mv ?_
   refine L.Gy hb8 Y.mv ?_
   replace h := Option.bind_eq_some_iff.1 h
   obtain ⟨t263, hc9, h⟩ := h
   refine L.GC hb8 (C.callE (l := true) [] Try.func15 (laws_eqIntS.ac _ _ _ _ hc9) .nil ?_)
   refine L.Gy hb8 Y.nt ?_
   refine L.Y (Y.pk (c := false) hb8) ?_
   refine L.Y Y.mv ?_
   refine L.Gc (fun hb => ?_) (fun hb => ?_)
   ·
    have hb10 := hb
    try simp only [hS, hE, ne_eq] at hb
    first | rw [if_pos hb10] at h | rw [if_neg (Bool.eq_false_iff.1 hb10)] at h | rw [if_pos hb] at h | rw [if_neg hb] at h | (simp only [hb, hT, reduceIte] at h) | skip
    exfalso
    revert h
    exact fun h => by cases k <;> simp [laws_FnExactScalesOf.j0] at h
   ·
    have hb10 := hb
    try simp only [hS, hE, ne_eq] at hb
    first | rw [if_pos hb10] at h | rw [if_neg (Bool.eq_false_iff.1 hb10)] at h | rw [if_pos hb] at h | rw [if_neg hb] at h | (simp only [hb, hT, reduceIte] at h) | skip
    refine L.Gy hb10 Y.mv ?_
    refine L.Gy hb10 Y.mv ?_
    refine L.Gy hb10 (Y.bb Try.underlying4) ?_
    refine L.Y (Y.pk (c := false) hb10) ?_
    refine AList.nil ?_
    rcases k with _ | k
    ·
     exact absurd h (by simp [laws_FnExactScalesOf.j0])
    simp only [laws_FnExactScalesOf.j0] at h
    refine W.cond (fun hb => ?_) (fun hb => ?_)
    ·
     have hb11 := hb
     try simp only [hS, hE, ne_eq] at hb
     first | rw [if_pos hb11] at h | rw [if_neg (Bool.eq_false_iff.1 hb11)] at h | rw [if_pos hb] at h | rw [if_neg hb] at h | (simp only [hb, hT, reduceIte] at h) | skip
     exfalso
     revert h
     exact fun h => by simp at h
    ·
     have hb11 := hb
     try simp only [hS, hE, ne_eq] at hb
     first | rw [if_pos hb11] at h | rw [if_neg (Bool.eq_false_iff.1 hb11)] at h | rw [if_pos hb] at h | rw [if_neg hb] at h | (simp only [hb, hT, reduceIte] at h) | skip
     refine AWp.skip ?_
     refine AWp.seq ?_
     refine AWp.seq ?_
     refine W.kp [0, 1, 2, 3, 4, 5, 6, 7, 8, 9, 10, 21, 51] ?_
     refine Dt.reg [] [] (.t 0 (.t 1 (.one 2 (.one 3 (.y 4 .done))))) HM ?_
     refine Dt.T rfl wantN (D.ldN Try.underlying26 Y26) ?_
     refine Dt.T rfl wantN (D.ldN Try.underlying24 Y24) ?_
     refine Dt.O (g' := false) rfl wantN ?_
     replace h := Option.bind_eq_some_iff.1 h
     obtain ⟨⟨t264, t265, t266⟩, hc12, h⟩ := h
     dsimp only at h
     refine Ox.C true [] Try.func8 (laws_toTable.ac _ _ _ _ _ _ _ hc12) .nil ?_
     refine Dt.O (g' := false) rfl wantN ?_
     replace h := Option.bind_eq_some_iff.1 h
     obtain ⟨t269, hc13, h⟩ := h
     refine Ox.C true [] Try.func10 (laws_eqTable.ac _ _ _ _ _ _ _ _ hc13) .nil ?_
     refine Dt.Y rfl wantN Y.nt ?_
     refine Dt.nil ?_
     refine W.cond (fun hb => ?_) (fun hb => ?_)
     ·
      have hb14 := hb
      try simp only [hS, hE, ne_eq] at hb
      first | rw [if_pos hb14] at h | rw [if_neg (Bool.eq_false_iff.1 hb14)] at h | rw [if_pos hb] at h | rw [if_neg hb] at h | (simp only [hb, hT, reduceIte] at h) | skip
      exfalso
      revert h
      exact fun h => by simp at h
     ·
      have hb14 := hb
      try simp only [hS, hE, ne_eq] at hb
      first | rw [if_pos hb14] at h | rw [if_neg (Bool.eq_false_iff.1 hb14)] at h | rw [if_pos hb] at h | rw [if_neg hb] at h | (simp only [hb, hT, reduceIte] at h) | skip
      refine AWp.skip ?_
      refine AWp.seq ?_
      refine W.kp [0, 1, 2, 3, 4, 5, 6, 7, 8, 9, 10, 21, 51, 56] ?_
      refine AWp.region ?_
      refine L.Y Y.asg ?_
      refine AList.nil ?_
      refine AWp.seq ?_
      refine AWp.region ?_
      refine L.S (S.ldN Try.underlying26 Y26) ?_
      refine L.Y Y.mv ?_
      replace h := Option.bind_eq_some_iff.1 h
      obtain ⟨⟨t270, t271⟩, hc15, h⟩ := h
      dsimp only at h
      have hl16 := laws_markTable.len _ _ _ _ _ _ _ hc15
      refine L.C (C.callE (l := true) [4] Try.func11 (laws_markTable.ac _ _ _ _ _ _ _ hc15) (H.c .nil) ?_)
      refine L.Y Y.asg ?_
      refine AList.nil ?_
      refine AWp.seq ?_
      refine AWp.seq ?_
      refine AWp.region ?_
      refine L.Y Y.mv ?_
      refine L.Y Y.bin ?_
      refine L.Y Y.mv ?_
      refine L.Gc (fun hb => ?_) (fun hb => ?_)
      ·
       have hb17 := hb
       try simp only [hS, hE, ne_eq] at hb
       first | rw [if_pos hb17] at h | rw [if_neg (Bool.eq_false_iff.1 hb17)] at h | rw [if_pos hb] at h | rw [if_neg hb] at h | (simp only [hb, hT, reduceIte] at h) | skip
       exfalso
       revert h
       exact fun h => by cases k <;> simp [laws_FnExactScalesOf.j1] at h
      ·
       have hb17 := hb
       try simp only [hS, hE, ne_eq] at hb
       first | rw [if_pos hb17] at h | rw [if_neg (Bool.eq_false_iff.1 hb17)] at h | rw [if_pos hb] at h | rw [if_neg hb] at h | (simp only [hb, hT, reduceIte] at h) | skip
       refine L.Gy hb17 Y.mv ?_
       refine L.Gy hb17 Y.mv ?_
       replace h := Option.bind_eq_some_iff.1 h
       obtain ⟨t272, hc18, h⟩ := h
       refine L.GC hb17 (C.callE (l := true) [] Try.func15 (laws_eqIntS.ac _ _ _ _ hc18) .nil ?_)
       refine L.Gy hb17 Y.nt ?_
       refine L.Y (Y.pk (c := false) hb17) ?_
       refine L.Y Y.mv ?_
       refine L.Gc (fun hb => ?_) (fun hb => ?_)
       ·
        have hb19 := hb
        try simp only [hS, hE, ne_eq] at hb
        first | rw [if_pos hb19] at h | rw [if_neg (Bool.eq_false_iff.1 hb19)] at h | rw [if_pos hb] at h | rw [if_neg hb] at h | (simp only [hb, hT, reduceIte] at h) | skip
        exfalso
        revert h
        exact fun h => by cases k <;> simp [laws_FnExactScalesOf.j1] at h
       ·
        have hb19 := hb
        try simp only [hS, hE, ne_eq] at hb
        first | rw [if_pos hb19] at h | rw [if_neg (Bool.eq_false_iff.1 hb19)] at h | rw [if_pos hb] at h | rw [if_neg hb] at h | (simp only [hb, hT, reduceIte] at h) | skip
        refine L.Gy hb19 Y.mv ?_
        refine L.Gy hb19 Y.mv ?_
        replace h := Option.bind_eq_some_iff.1 h
        obtain ⟨t273, hc20, h⟩ := h
        refine L.GC hb19 (C.callE (l := true) [] Try.func15 (laws_eqIntS.ac _ _ _ _ hc20) .nil ?_)
        refine L.Gy hb19 Y.nt ?_
        refine L.Y (Y.pk (c := false) hb19) ?_
        refine L.Y Y.mv ?_
        refine L.Gc (fun hb => ?_) (fun hb => ?_)
        ·
         have hb21 := hb
         try simp only [hS, hE, ne_eq] at hb
         first | rw [if_pos hb21] at h | rw [if_neg (Bool.eq_false_iff.1 hb21)] at h | rw [if_pos hb] at h | rw [if_neg hb] at h | (simp only [hb, hT, reduceIte] at h) | skip
         exfalso
         revert h
         exact fun h => by cases k <;> simp [laws_FnExactScalesOf.j1] at h
        ·
         have hb21 := hb
         try simp only [hS, hE, ne_eq] at hb
         first | rw [if_pos hb21] at h | rw [if_neg (Bool.eq_false_iff.1 hb21)] at h | rw [if_pos hb] at h | rw [if_neg hb] at h | (simp only [hb, hT, reduceIte] at h) | skip
         refine L.Gy hb21 Y.mv ?_
         refine L.Gy hb21 Y.mv ?_
         refine L.Gy hb21 (Y.bb Try.underlying4) ?_
         refine L.Y (Y.pk (c := false) hb21) ?_
         refine AList.nil ?_
         rcases k with _ | k
         ·
          exact absurd h (by simp [laws_FnExactScalesOf.j1])
         simp only [laws_FnExactScalesOf.j1] at h
         refine W.cond (fun hb => ?_) (fun hb => ?_)
         ·
          have hb22 := hb
          try simp only [hS, hE, ne_eq] at hb
          first | rw [if_pos hb22] at h | rw [if_neg (Bool.eq_false_iff.1 hb22)] at h | rw [if_pos hb] at h | rw [if_neg hb] at h | (simp only [hb, hT, reduceIte] at h) | skip
          exfalso
          revert h
          exact fun h => by simp at h
         ·
          have hb22 := hb
          try simp only [hS, hE, ne_eq] at hb
          first | rw [if_pos hb22] at h | rw [if_neg (Bool.eq_false_iff.1 hb22)] at h | rw [if_pos hb] at h | rw [if_neg hb] at h | (simp only [hb, hT, reduceIte] at h) | skip
          refine AWp.skip ?_
          refine AWp.seq ?_
          refine W.kp [0, 1, 2, 3, 4, 5, 6, 7, 8, 9, 10, 11, 21, 51, 56, 78] ?_
          refine AWp.region ?_
          refine L.Y Y.asg ?_
          refine AList.nil ?_
          refine AWp.seq ?_
          refine AWp.region ?_
          refine L.Y Y.mv ?_
          refine L.Y Y.mv ?_
          replace h := Option.bind_eq_some_iff.1 h
          obtain ⟨⟨t274, t275⟩, hc23, h⟩ := h
          dsimp only at h
          have hl24 := laws_markIntS.len _ _ _ _ _ hc23
          refine L.C (C.callE (l := true) [6] Try.func16 (laws_markIntS.ac _ _ _ _ _ hc23) (H.c .nil) ?_)
          refine L.Y Y.asg ?_
          refine AList.nil ?_
          refine AWp.seq ?_
          refine AWp.region ?_
          refine L.Y Y.mv ?_
          refine L.Y Y.mv ?_
          replace h := Option.bind_eq_some_iff.1 h
          obtain ⟨⟨t276, t277⟩, hc25, h⟩ := h
          dsimp only at h
          have hl26 := laws_markIntS.len _ _ _ _ _ hc25
          refine L.C (C.callE (l := true) [7] Try.func16 (laws_markIntS.ac _ _ _ _ _ hc25) (H.c .nil) ?_)
          refine L.Y Y.asg ?_
          refine AList.nil ?_
          refine AWp.seq ?_
          refine W.kp [0, 1, 2, 3, 4, 5, 6, 7, 8, 9, 10, 11, 12, 21, 51, 56, 78] ?_
          refine AWp.region ?_
          refine L.Y Y.asg ?_
          refine AList.nil ?_
          refine AWp.seq ?_
          refine AWp.region ?_
          refine L.Y Y.mv ?_
          refine L.Y Y.mv ?_
          replace h := Option.bind_eq_some_iff.1 h
          obtain ⟨t278, hc27, h⟩ := h
          refine L.C (C.callE (l := true) [] Try.func17 (laws_heldIntS.ac _ _ _ _ hc27) .nil ?_)
          refine L.Y Y.asg ?_
          refine AList.nil ?_
          refine AWp.seq ?_
          refine AWp.seq ?_
          refine AWp.region ?_
          refine L.Y Y.mv ?_
          refine L.Y Y.bin ?_
          refine AList.nil ?_
          refine W.cond (fun hb => ?_) (fun hb => ?_)
          ·
           have hb28 := hb
           try simp only [hS, hE, ne_eq] at hb
           first | rw [if_pos hb28] at h | rw [if_neg (Bool.eq_false_iff.1 hb28)] at h | rw [if_pos hb] at h | rw [if_neg hb] at h | (simp only [hb, hT, reduceIte] at h) | skip
           exfalso
           revert h
           exact fun h => by simp at h
          ·
           have hb28 := hb
           try simp only [hS, hE, ne_eq] at hb
           first | rw [if_pos hb28] at h | rw [if_neg (Bool.eq_false_iff.1 hb28)] at h | rw [if_pos hb] at h | rw [if_neg hb] at h | (simp only [hb, hT, reduceIte] at h) | skip
           refine AWp.skip ?_
           refine AWp.seq ?_
           refine W.kp [0, 1, 2, 3, 4, 5, 6, 7, 8, 9, 10, 11, 12, 13, 21, 51, 56, 78, 89] ?_
           refine AWp.region ?_
           refine L.Y Y.mv ?_
           refine L.Y Y.mv ?_
           replace h := Option.bind_eq_some_iff.1 h
           obtain ⟨t279, hc29, h⟩ := h
           refine L.C (C.callE (l := true) [] Try.func17 (laws_heldIntS.ac _ _ _ _ hc29) .nil ?_)
           refine L.Y Y.asg ?_
           refine AList.nil ?_
           refine AWp.seq ?_
           refine AWp.seq ?_
           refine AWp.region ?_
           refine L.Y Y.mv ?_
           refine L.Y Y.bin ?_
           refine AList.nil ?_
           refine W.cond (fun hb => ?_) (fun hb => ?_)
           ·
            have hb30 := hb
            try simp only [hS, hE, ne_eq] at hb
            first | rw [if_pos hb30] at h | rw [if_neg (Bool.eq_false_iff.1 hb30)] at h | rw [if_pos hb] at h | rw [if_neg hb] at h | (simp only [hb, hT, reduceIte] at h) | skip
            exfalso
            revert h
            exact fun h => by simp at h
           ·
            have hb30 := hb
            try simp only [hS, hE, ne_eq] at hb
            first | rw [if_pos hb30] at h | rw [if_neg (Bool.eq_false_iff.1 hb30)] at h | rw [if_pos hb] at h | rw [if_neg hb] at h | (simp only [hb, hT, reduceIte] at h) | skip
            refine AWp.skip ?_
            refine AWp.seq ?_
            refine AWp.seq ?_
            refine W.kp [0, 1, 2, 3, 4, 5, 6, 7, 8, 9, 10, 11, 12, 13, 21, 51, 56, 78, 89, 94] ?_
            refine AWp.region ?_
            refine L.Y Y.mv ?_
            refine L.Y Y.mv ?_
            refine L.Y Y.bin ?_
            refine AList.nil ?_
            refine W.cond (fun hb => ?_) (fun hb => ?_)
            ·
             have hb31 := hb
             try simp only [hS, hE, ne_eq] at hb
             first | rw [if_pos hb31] at h | rw [if_neg (Bool.eq_false_iff.1 hb31)] at h | rw [if_pos hb] at h | rw [if_neg hb] at h | (simp only [hb, hT, reduceIte] at h) | skip
             exfalso
             revert h
             exact fun h => by simp at h
            ·
             have hb31 := hb
             try simp only [hS, hE, ne_eq] at hb
             first | rw [if_pos hb31] at h | rw [if_neg (Bool.eq_false_iff.1 hb31)] at h | rw [if_pos hb] at h | rw [if_neg hb] at h | (simp only [hb, hT, reduceIte] at h) | skip
             refine AWp.skip ?_
             refine AWp.seq ?_
             refine AWp.region ?_
             refine L.S (S.ldN Try.underlying24 Y24) ?_
             replace h := Option.bind_eq_some_iff.1 h
             obtain ⟨⟨t280, t281, t282⟩, hc32, h⟩ := h
             dsimp only at h
             refine L.C (C.callE (l := true) [] Try.func8 (laws_toTable.ac _ _ _ _ _ _ _ hc32) .nil ?_)
             replace h := Option.bind_eq_some_iff.1 h
             obtain ⟨⟨t285, t288, t291⟩, hc33, h⟩ := h
             dsimp only at h
             refine L.C (C.callE (l := true) [] Try.func14 (impl_ScalesOf.ac _ _ _ _ _ _ _ hc33) .nil ?_)
             refine L.Y Y.mv ?_
             refine L.Y Y.ex ?_
             refine L.Y Y.ex ?_
             refine L.Y Y.ex ?_
             refine L.Y Y.asg ?_
             refine L.Y Y.asg ?_
             refine L.Y Y.asg ?_
             refine AList.nil ?_
             refine AWp.seq ?_
             refine AWp.seq ?_
             refine W.kp [0, 1, 2, 3, 4, 5, 6, 7, 8, 9, 10, 11, 12, 13, 14, 15, 16, 21, 51, 56, 78, 89, 94, 97] ?_
             refine AWp.region ?_
             refine L.Y Y.mv ?_
             refine L.Y Y.mv ?_
             replace h := Option.bind_eq_some_iff.1 h
             obtain ⟨t292, hc34, h⟩ := h
             refine L.C (C.callE (l := true) [] Try.func15 (laws_eqIntS.ac _ _ _ _ hc34) .nil ?_)
             refine L.Y Y.nt ?_
             refine L.Y Y.mv ?_
             refine L.Gc (fun hb => ?_) (fun hb => ?_)
             ·
              have hb35 := hb
              try simp only [hS, hE, ne_eq] at hb
              first | rw [if_pos hb35] at h | rw [if_neg (Bool.eq_false_iff.1 hb35)] at h | rw [if_pos hb] at h | rw [if_neg hb] at h | (simp only [hb, hT, reduceIte] at h) | skip
              exfalso
              revert h
              exact fun h => by cases k <;> simp [laws_FnExactScalesOf.j2] at h
             ·
              have hb35 := hb
              try simp only [hS, hE, ne_eq] at hb
              first | rw [if_pos hb35] at h | rw [if_neg (Bool.eq_false_iff.1 hb35)] at h | rw [if_pos hb] at h | rw [if_neg hb] at h | (simp only [hb, hT, reduceIte] at h) | skip
              refine L.Gy hb35 Y.mv ?_
              refine L.Gy hb35 Y.mv ?_
              replace h := Option.bind_eq_some_iff.1 h
              obtain ⟨t293, hc36, h⟩ := h
              refine L.GC hb35 (C.callE (l := true) [] Try.func15 (laws_eqIntS.ac _ _ _ _ hc36) .nil ?_)
              refine L.Gy hb35 Y.nt ?_
              refine L.Y (Y.pk (c := false) hb35) ?_
              refine L.Y Y.mv ?_
              refine L.Gc (fun hb => ?_) (fun hb => ?_)
              ·
               have hb37 := hb
               try simp only [hS, hE, ne_eq] at hb
               first | rw [if_pos hb37] at h | rw [if_neg (Bool.eq_false_iff.1 hb37)] at h | rw [if_pos hb] at h | rw [if_neg hb] at h | (simp only [hb, hT, reduceIte] at h) | skip
               exfalso
               revert h
               exact fun h => by cases k <;> simp [laws_FnExactScalesOf.j2] at h
              ·
               have hb37 := hb
               try simp only [hS, hE, ne_eq] at hb
               first | rw [if_pos hb37] at h | rw [if_neg (Bool.eq_false_iff.1 hb37)] at h | rw [if_pos hb] at h | rw [if_neg hb] at h | (simp only [hb, hT, reduceIte] at h) | skip
               refine L.Gy hb37 Y.mv ?_
               refine L.Gy hb37 Y.mv ?_
               refine L.Gy hb37 (Y.bb Try.underlying4) ?_
               refine L.Y (Y.pk (c := false) hb37) ?_
               refine AList.nil ?_
               rcases k with _ | k
               ·
                exact absurd h (by simp [laws_FnExactScalesOf.j2])
               simp only [laws_FnExactScalesOf.j2] at h
               refine W.cond (fun hb => ?_) (fun hb => ?_)
               ·
                have hb38 := hb
                try simp only [hS, hE, ne_eq] at hb
                first | rw [if_pos hb38] at h | rw [if_neg (Bool.eq_false_iff.1 hb38)] at h | rw [if_pos hb] at h | rw [if_neg hb] at h | (simp only [hb, hT, reduceIte] at h) | skip
                exfalso
                revert h
                exact fun h => by simp at h
               ·
                have hb38 := hb
                try simp only [hS, hE, ne_eq] at hb
                first | rw [if_pos hb38] at h | rw [if_neg (Bool.eq_false_iff.1 hb38)] at h | rw [if_pos hb] at h | rw [if_neg hb] at h | (simp only [hb, hT, reduceIte] at h) | skip
                refine AWp.skip ?_
                refine AWp.seq ?_
                refine W.kp [0, 1, 2, 3, 4, 5, 6, 7, 8, 9, 10, 11, 12, 13, 14, 15, 16, 21, 51, 56, 78, 89, 94, 97, 119] ?_
                refine AWp.region ?_
                refine L.Y Y.asg ?_
                refine AList.nil ?_
                refine AWp.seq ?_
                refine AWp.region ?_
                refine L.Y Y.mv ?_
                refine L.Y Y.mv ?_
                replace h := Option.bind_eq_some_iff.1 h
                obtain ⟨t294, hc39, h⟩ := h
                refine L.C (C.callE (l := true) [] Try.func17 (laws_heldIntS.ac _ _ _ _ hc39) .nil ?_)
                refine L.Y Y.asg ?_
                refine AList.nil ?_
                refine AWp.seq ?_
                refine AWp.seq ?_
                refine AWp.region ?_
                refine L.Y Y.mv ?_
                refine L.Y Y.bin ?_
                refine AList.nil ?_
                refine W.cond (fun hb => ?_) (fun hb => ?_)
                ·
                 have hb40 := hb
                 try simp only [hS, hE, ne_eq] at hb
                 first | rw [if_pos hb40] at h | rw [if_neg (Bool.eq_false_iff.1 hb40)] at h | rw [if_pos hb] at h | rw [if_neg hb] at h | (simp only [hb, hT, reduceIte] at h) | skip
                 exfalso
                 revert h
                 exact fun h => by simp at h
                ·
                 have hb40 := hb
                 try simp only [hS, hE, ne_eq] at hb
                 first | rw [if_pos hb40] at h | rw [if_neg (Bool.eq_false_iff.1 hb40)] at h | rw [if_pos hb] at h | rw [if_neg hb] at h | (simp only [hb, hT, reduceIte] at h) | skip
                 refine AWp.skip ?_
                 refine AWp.seq ?_
                 refine W.kp [0, 1, 2, 3, 4, 5, 6, 7, 8, 9, 10, 11, 12, 13, 14, 15, 16, 21, 51, 56, 78, 89, 94, 97, 119, 124] ?_
                 refine AWp.region ?_
                 refine L.Y Y.mv ?_
                 refine L.Y Y.mv ?_
                 replace h := Option.bind_eq_some_iff.1 h
                 obtain ⟨t295, hc41, h⟩ := h
                 refine L.C (C.callE (l := true) [] Try.func17 (laws_heldIntS.ac _ _ _ _ hc41) .nil ?_)
                 refine L.Y Y.asg ?_
                 refine AList.nil ?_
                 refine AWp.seq ?_
                 refine AWp.seq ?_
                 refine AWp.region ?_
                 refine L.Y Y.mv ?_
                 refine L.Y Y.bin ?_
                 refine AList.nil ?_
                 refine W.cond (fun hb => ?_) (fun hb => ?_)
                 ·
                  have hb42 := hb
                  try simp only [hS, hE, ne_eq] at hb
                  first | rw [if_pos hb42] at h | rw [if_neg (Bool.eq_false_iff.1 hb42)] at h | rw [if_pos hb] at h | rw [if_neg hb] at h | (simp only [hb, hT, reduceIte] at h) | skip
                  exfalso
                  revert h
                  exact fun h => by simp at h
                 ·
                  have hb42 := hb
                  try simp only [hS, hE, ne_eq] at hb
                  first | rw [if_pos hb42] at h | rw [if_neg (Bool.eq_false_iff.1 hb42)] at h | rw [if_pos hb] at h | rw [if_neg hb] at h | (simp only [hb, hT, reduceIte] at h) | skip
                  refine AWp.skip ?_
                  refine AWp.seq ?_
                  refine AWp.seq ?_
                  refine W.kp [0, 1, 2, 3, 4, 5, 6, 7, 8, 9, 10, 11, 12, 13, 14, 15, 16, 21, 51, 56, 78, 89, 94, 97, 119, 124, 129] ?_
                  refine AWp.region ?_
                  refine L.Y Y.mv ?_
                  refine L.Y Y.mv ?_
                  refine L.Y Y.bin ?_
                  refine AList.nil ?_
                  refine W.cond (fun hb => ?_) (fun hb => ?_)
                  ·
                   have hb43 := hb
                   try simp only [hS, hE, ne_eq] at hb
                   first | rw [if_pos hb43] at h | rw [if_neg (Bool.eq_false_iff.1 hb43)] at h | rw [if_pos hb] at h | rw [if_neg hb] at h | (simp only [hb, hT, reduceIte] at h) | skip
                   exfalso
                   revert h
                   exact fun h => by simp at h
                  ·
                   have hb43 := hb
                   try simp only [hS, hE, ne_eq] at hb
                   first | rw [if_pos hb43] at h | rw [if_neg (Bool.eq_false_iff.1 hb43)] at h | rw [if_pos hb] at h | rw [if_neg hb] at h | (simp only [hb, hT, reduceIte] at h) | skip
                   refine AWp.skip ?_
                   refine AWp.seq ?_
                   refine AWp.region ?_
                   refine L.Y Y.asg ?_
                   refine AList.nil ?_
                   refine AWp.ret ?_
                   first | (exfalso; cases h; done) | exact ⟨.inr rfl, [(2, _)], _, ⟨rfl, rfl⟩, IsPart.at [] [] base0 .nil (E.c .nil (hs := Sub.litE (LV h)))⟩

/-- THE ONE PURE STATEMENT of laws_FnExactScalesOf: yours. -/
def laws_FnExactScalesOf.Pure : Prop := ∀ (a0_0 : Int) (a0_1 : Int) (l0_2 : List Int), (Lit.int .i64 a0_0).wf = true → (Lit.int .i64 a0_1).wf = true → l0_2.length ≤ maxLen → (∀ x ∈ l0_2, (Lit.int .i64 x).wf = true) → ∃ k, laws_FnExactScalesOf.f k a0_0 a0_1 l0_2 = some true
theorem laws_FnExactScalesOf.walk (P : laws_FnExactScalesOf.Pure) (a0_0 : Int) (a0_1 : Int) (a0_2 : Option Addr) (len0_2 cap0_2 : Nat) (z0_2 : List Int) (w : World) (w0_0 : (Lit.int .i64 a0_0).wf = true) (w0_1 : (Lit.int .i64 a0_1).wf = true) (w0_2 : (a0_2 = none ∧ len0_2 = 0 ∧ cap0_2 = 0 ∧ z0_2 = []) ∨ ∃ x, a0_2 = some x ∧ len0_2 ≤ cap0_2 ∧ cap0_2 ≤ maxLen ∧ z0_2.length = cap0_2 ∧ (∀ i, i < z0_2.length → w.cell? (x.add i) = some (.int .i64 (z0_2.getD i 0))) ∧ ∀ n ∈ z0_2, (Lit.int .i64 n).wf = true) :
  Calls Try.prog 4 #[.agg #[.int .i64 a0_0, .int .i64 a0_1, .slice a0_2 len0_2 cap0_2]] w fun e w' => e = .returned (.bool true) ∧ Below w.heap.size w w' := by
 obtain ⟨hl0_2, hv0_2⟩ := VR.came (A0 := fun _ => .bool false) (H := []) w0_2
 obtain ⟨hm0_2, hw0_2⟩ := came_fits w0_2
 obtain ⟨k, h⟩ := P a0_0 a0_1 (z0_2.take len0_2) w0_0 w0_1 hm0_2 hw0_2
 refine ACalls.law (vs := [.agg #[.int .i64 a0_0, .int .i64 a0_1, .slice a0_2 len0_2 cap0_2]]) (fun p hp => by cases hp) (laws_FnExactScalesOf.ac k a0_0 a0_1 (z0_2.take len0_2) h) ?_
 repeat' first | assumption | exact VRs_nil | exact VR_lit | refine VRs_cons ?_ ?_ | refine VR_agg ?_

end Go.Proofs.Ytakabmokpknknaa.PFnExactScalesOf
