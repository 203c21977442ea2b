-- Written by a program of this session's (wip/myprint2): the functions by the kit's print, the walks by awgen.py. Lean checks it.
import Derived.Test.YtboaffpfphkneaaPFnExactMeetOfBiordersx0
import Derived.Test.YtboaffpfphkneaaPFnExactMeetOfBiordersx1
import Derived.Test.YtboaffpfphkneaaPFnExactMeetOfBiordersx3
import Derived.Test.YtboaffpfphkneaaPFnExactMeetOfBiordersx6
import Derived.Test.YtboaffpfphkneaaPFnExactMeetOfBiordersx7
namespace Go.Proofs.Ytboaffpfphkneaa.PFnExactMeetOfBiorders
open Go.RowKit Go.Proofs.YtboaffpfphkneaaW.PrintWords Go.Proofs.YtboaffpfphkneaaW.PrintLast Go.Proofs.YtboaffpfphkneaaW.PrintMore Go.Proofs.YtboaffpfphkneaaM Go.Proofs.YtboaffpfphkneaaA
attribute [local go_sem] max2_int min2_int max_two min_two max_three min_three max_four min_four   -- for this text's walks alone
set_option linter.unusedVariables false
set_option linter.unusedSimpArgs false

/-! ### laws_heldTableS: function 12 -/
def laws_heldTableS.l0 : Nat → List (S29) → Int → Int → Option (Int)
 | 0, _, _, _ => none
 | k + 1, x0, x1, x5 => if x5 < (x0.length : Int) then (if 0 ≤ x5 then (if ((Enc.rd x0 x5).f0) = x1 then (if ((Enc.rd x0 x5).f1) = (wrap64 (x1 + 1)) then ((laws_heldIntS.f k ((Enc.rd x0 x5).f2) (wrap64 ((wrap64 (x1 + 1)) + 1))).bind fun t314 => (if t314 < 0 then (some (-1)) else (laws_heldTableS.l0 k x0 t314 (wrap64 (x5 + 1))))) else (some (-1))) else (some (-1))) else (none)) else (some x1)
def laws_heldTableS.f (k : Nat) (l0 : List (S29)) (a1 : Int) : Option (Int) := laws_heldTableS.l0 k l0 a1 0
set_option maxRecDepth 100000 in
set_option maxHeartbeats 20000000 in
theorem laws_heldTableS.ac (k : Nat) (l0 : List (S29)) (a1 : Int) (r : Int) (h : laws_heldTableS.f k l0 a1 = some r) :
  ACalls Try.prog 12 [.row 3 l0.length false (Enc.cells l0), .lit (.int .i64 a1)] [] (fun v H' => v = .lit (.int .i64 r) ∧ H' = []) := by
 refine ACalls.ofP [4] Try.func12 rfl (by exact Nat.le_of_ble_eq_true rfl) rfl (by decide) ?_
 simp only [Try.ntmps12, env0, laws_heldTableS.f] at h ⊢
 refine AWp.seq ?_
 refine AWp.region ?_
 refine L.Y Y.asg ?_
 refine AList.nil ?_
 refine AWp.seq ?_
 refine AWp.seq ?_
 refine AWp.region ?_
 refine L.Y Y.asg ?_
 refine AList.nil ?_
 refine AWp.block ?_
 refine AWp.loopI (fun kk e H => kk ≤ k ∧ ∃ (x1 : Int) (x5 : Int), e = [(0, .row 3 l0.length false (Enc.cells l0)), (1, .lit (.int .i64 x1)), (5, .lit (.int .i64 x5))] ∧ H = [] ∧ laws_heldTableS.l0 kk l0 x1 x5 = some r) (k := k)
  ⟨_, _, ⟨Nat.le_refl _, _, _, rfl, rfl, h⟩, IsPart.at [] [] base0 .nil (E.c (E.c (E.c .nil)))⟩ ?_
 clear h
 rintro k1 e H ⟨hk2, x1, x5, rfl, rfl, h⟩
 cases k1 with
 | zero => exact absurd h (by simp [laws_heldTableS.l0])
 | succ k1 =>
 simp only [laws_heldTableS.l0] at h
 refine AWp.seq ?_
 refine AWp.seq ?_
 refine AWp.region ?_
 refine L.Y Y.mv ?_
 refine L.Y Y.mv ?_
 refine L.Y (Y.ln Try.underlying26) ?_
 refine L.Y Y.bin ?_
 refine AList.nil ?_
 refine W.cond (fun hb => ?_) (fun hb => ?_)
 ·
  have hb3 := hb
  try simp only [hS, hE, ne_eq] at hb
  first | rw [if_pos hb3] at h | rw [if_neg (Bool.eq_false_iff.1 hb3)] at h | rw [if_pos hb] at h | rw [if_neg hb] at h | (simp only [hb, hT, reduceIte] at h) | skip
  repeat (first | (rw [iN] at h; obtain ⟨_, h⟩ := h) | (rw [iP] at h; obtain ⟨_, h⟩ := h) | (simp only [bS] at h))
  refine AWp.skip ?_
  refine AWp.seq ?_
  refine AWp.block ?_
  refine AWp.seq ?_
  refine AWp.seq ?_
  refine AWp.region ?_
  refine L.Y Y.mv ?_
  refine L.Y Y.mv ?_
  refine L.Y (Y.ixrT Try.underlying26 Y29 en_T29) ?_
  refine L.Y (Y.fa (off := 0) Try.underlying29 Y3) ?_
  refine L.S (S.ld Try.underlying3) ?_
  refine L.Y Y.mv ?_
  refine L.Y Y.bin ?_
  refine AList.nil ?_
  refine W.cond (fun hb => ?_) (fun hb => ?_)
  ·
   have hb4 := hb
   try simp only [hS, hE, ne_eq] at hb
   first | rw [if_pos hb4] at h | rw [if_neg (Bool.eq_false_iff.1 hb4)] at h | rw [if_pos hb] at h | rw [if_neg hb] at h | (simp only [hb, hT, reduceIte] at h) | skip
   refine AWp.seq ?_
   refine W.kp [0, 1, 5, 9, 18] ?_
   refine AWp.region ?_
   refine L.Y Y.asg ?_
   refine AList.nil ?_
   obtain rfl := Option.some.inj h
   refine AWp.ret ?_
   exact ⟨.inr rfl, [(4, _)], _, ⟨rfl, rfl⟩, IsPart.at [] [] base0 .nil (E.c .nil)⟩
  ·
   have hb4 := hb
   try simp only [hS, hE, ne_eq] at hb
   first | rw [if_pos hb4] at h | rw [if_neg (Bool.eq_false_iff.1 hb4)] at h | rw [if_pos hb] at h | rw [if_neg hb] at h | (simp only [hb, hT, reduceIte] at h) | skip
   refine AWp.skip ?_
   refine AWp.seq ?_
   refine W.kp [0, 1, 5, 9, 18] ?_
   refine AWp.region ?_
   refine L.Y Y.mv ?_
   refine L.Y Y.bin ?_
   refine L.Y Y.asg ?_
   refine AList.nil ?_
   refine AWp.seq ?_
   refine AWp.seq ?_
   refine AWp.region ?_
   refine L.Y Y.mv ?_
   refine L.Y Y.mv ?_
   refine L.Y (Y.ixrT Try.underlying26 Y29 en_T29) ?_
   refine L.Y (Y.fa (off := 1) Try.underlying29 Y3) ?_
   refine L.S (S.ld Try.underlying3) ?_
   refine L.Y Y.mv ?_
   refine L.Y Y.bin ?_
   refine AList.nil ?_
   refine W.cond (fun hb => ?_) (fun hb => ?_)
   ·
    have hb5 := hb
    try simp only [hS, hE, ne_eq] at hb
    first | rw [if_pos hb5] at h | rw [if_neg (Bool.eq_false_iff.1 hb5)] at h | rw [if_pos hb] at h | rw [if_neg hb] at h | (simp only [hb, hT, reduceIte] at h) | skip
    refine AWp.seq ?_
    refine W.kp [0, 1, 5, 9, 18, 27] ?_
    refine AWp.region ?_
    refine L.Y Y.asg ?_
    refine AList.nil ?_
    obtain rfl := Option.some.inj h
    refine AWp.ret ?_
    exact ⟨.inr rfl, [(4, _)], _, ⟨rfl, rfl⟩, IsPart.at [] [] base0 .nil (E.c .nil)⟩
   ·
    have hb5 := hb
    try simp only [hS, hE, ne_eq] at hb
    first | rw [if_pos hb5] at h | rw [if_neg (Bool.eq_false_iff.1 hb5)] at h | rw [if_pos hb] at h | rw [if_neg hb] at h | (simp only [hb, hT, reduceIte] at h) | skip
    refine AWp.skip ?_
    refine AWp.seq ?_
    refine W.kp [0, 1, 5, 9, 18, 27] ?_
    refine AWp.region ?_
    refine L.Y Y.mv ?_
    refine L.Y Y.bin ?_
    refine L.Y Y.asg ?_
    refine AList.nil ?_
    refine AWp.seq ?_
    refine AWp.region ?_
    refine L.Y Y.mv ?_
    refine L.Y Y.mv ?_
    refine L.Y (Y.ixrT Try.underlying26 Y29 en_T29) ?_
    refine L.Y (Y.fa (off := 2) Try.underlying29 Y22) ?_
    refine L.S (S.ld Try.underlying22) ?_
    refine L.Y Y.mv ?_
    replace h := Option.bind_eq_some_iff.1 h
    obtain ⟨t314, hc6, h⟩ := h
    refine L.C (C.callE (l := true) [] Try.func29 (laws_heldIntS.ac _ _ _ _ hc6) .nil ?_)
    refine L.Y Y.asg ?_
    refine AList.nil ?_
    refine AWp.seq ?_
    refine W.kp [0, 1, 5, 9, 18, 27] ?_
    refine AWp.region ?_
    refine L.Y Y.mv ?_
    refine L.Y Y.bin ?_
    refine AList.nil ?_
    refine W.cond (fun hb => ?_) (fun hb => ?_)
    ·
     have hb7 := hb
     try simp only [hS, hE, ne_eq] at hb
     first | rw [if_pos hb7] at h | rw [if_neg (Bool.eq_false_iff.1 hb7)] at h | rw [if_pos hb] at h | rw [if_neg hb] at h | (simp only [hb, hT, reduceIte] at h) | skip
     refine AWp.seq ?_
     refine AWp.region ?_
     refine L.Y Y.asg ?_
     refine AList.nil ?_
     obtain rfl := Option.some.inj h
     refine AWp.ret ?_
     exact ⟨.inr rfl, [(4, _)], _, ⟨rfl, rfl⟩, IsPart.at [] [] base0 .nil (E.c .nil)⟩
    ·
     have hb7 := hb
     try simp only [hS, hE, ne_eq] at hb
     first | rw [if_pos hb7] at h | rw [if_neg (Bool.eq_false_iff.1 hb7)] at h | rw [if_pos hb] at h | rw [if_neg hb] at h | (simp only [hb, hT, reduceIte] at h) | skip
     refine AWp.skip ?_
     refine AWp.region ?_
     refine L.Y Y.mv ?_
     refine L.Y Y.bin ?_
     refine L.Y Y.asg ?_
     refine AList.nil ?_
     exact ⟨k1, by omega, _, _, ⟨by omega, _, _, rfl, rfl, h⟩, IsPart.at [] [] base0 .nil (E.c (E.c (E.c .nil)))⟩
 ·
  have hb3 := hb
  try simp only [hS, hE, ne_eq] at hb
  first | rw [if_pos hb3] at h | rw [if_neg (Bool.eq_false_iff.1 hb3)] at h | rw [if_pos hb] at h | rw [if_neg hb] at h | (simp only [hb, hT, reduceIte] at h) | skip
  refine AWp.exit ?_
  refine AWp.seq ?_
  refine AWp.region ?_
  refine L.Y Y.mv ?_
  refine L.Y Y.asg ?_
  refine AList.nil ?_
  obtain rfl := Option.some.inj h
  refine AWp.ret ?_
  exact ⟨.inr rfl, [(4, _)], _, ⟨rfl, rfl⟩, IsPart.at [] [] base0 .nil (E.c .nil)⟩

/-! ### laws_FnExactMeetOfBiorders: function 3 -/
mutual
def laws_FnExactMeetOfBiorders.j0 : Nat → List (S29) → Bool → List (S29) → Bool → Bool → Int → Int → List Int → Int → Int → List Int → Option (Bool)
 | 0, _, _, _, _, _, _, _, _, _, _, _ => none
 | k + 1, x4, x5, x7, x8, x40, x316000, x316001, x316002, x332000, x332001, x332002 => if x40 = true then (some false) else ((laws_toTable.f k x316000 x316001 x316002).bind fun bt337 => ((laws_eqTable.f k x332000 x332001 x332002 bt337.1 bt337.2.1 bt337.2.2).bind fun t342 => (if t342 = true then ((laws_markTable.f k x332000 x332001 x332002 1).bind fun bt343 => (if bt343.1 < 0 then (laws_FnExactMeetOfBiorders.j1 k x4 x5 x7 true x316000 x316001 x316002) else ((laws_eqTableS.f k x7 x4).bind fun t345 => (if t345 = true then (laws_FnExactMeetOfBiorders.j1 k x4 x5 x7 (x8 != x5) x316000 x316001 x316002) else (laws_FnExactMeetOfBiorders.j1 k x4 x5 x7 true x316000 x316001 x316002))))) else (some false))))
def laws_FnExactMeetOfBiorders.j1 : Nat → List (S29) → Bool → List (S29) → Bool → Int → Int → List Int → Option (Bool)
 | 0, _, _, _, _, _, _, _ => none
 | k + 1, x4, x5, x7, x61, x316000, x316001, x316002 => if x61 = true then (some false) else ((laws_markTableS.f k x7 1).bind fun bt346 => ((laws_heldTableS.f k bt346.2 1).bind fun t348 => (if t348 < 0 then (some false) else (if t348 = bt346.1 then ((laws_toTable.f k x316000 x316001 x316002).bind fun bt349 => ((impl_MeetOfBiorders.f k bt349.1 bt349.2.1 bt349.2.2).bind fun bt354 => ((laws_eqTableS.f k bt354.1 x4).bind fun t358 => (if t358 = true then (laws_FnExactMeetOfBiorders.j2 k bt346.2 bt346.1 (bt354.2 != x5)) else (laws_FnExactMeetOfBiorders.j2 k bt346.2 bt346.1 true))))) else (some false)))))
def laws_FnExactMeetOfBiorders.j2 : Nat → List (S29) → Int → Bool → Option (Bool)
 | 0, _, _, _ => none
 | k + 1, x7, x10, x87 => if x87 = true then (some false) else ((laws_heldTableS.f k x7 1).bind fun t359 => (if t359 < 0 then (some false) else (if t359 = x10 then (some true) else (some false))))
end
def laws_FnExactMeetOfBiorders.f (k : Nat) (a0_0 : Int) (a0_1 : Int) (l0_2 : List Int) : Option (Bool) := (laws_szTable.f a0_0 a0_1 l0_2 1048576).bind fun t316 => (if t316 < 0 then (some true) else ((laws_toTable.f k a0_0 a0_1 l0_2).bind fun bt317 => ((spec_MeetOfBiorders.f k bt317.1 bt317.2.1 bt317.2.2).bind fun bt322 => ((laws_toTable.f k a0_0 a0_1 l0_2).bind fun bt326 => ((impl_MeetOfBiorders.f k bt326.1 bt326.2.1 bt326.2.2).bind fun bt332 => ((laws_eqTableS.f k bt332.1 bt322.1).bind fun t336 => (if t336 = true then (laws_FnExactMeetOfBiorders.j0 k bt322.1 bt322.2 bt332.1 bt332.2 (bt332.2 != bt322.2) a0_0 a0_1 l0_2 bt326.1 bt326.2.1 bt326.2.2) else (laws_FnExactMeetOfBiorders.j0 k bt322.1 bt322.2 bt332.1 bt332.2 true a0_0 a0_1 l0_2 bt326.1 bt326.2.1 bt326.2.2))))))))
set_option maxRecDepth 100000 in
set_option maxHeartbeats 20000000 in
theorem laws_FnExactMeetOfBiorders.ac (k : Nat) (a0_0 : Int) (a0_1 : Int) (l0_2 : List Int)  (h : laws_FnExactMeetOfBiorders.f k a0_0 a0_1 l0_2 = some true) :
  ACalls Try.prog 3 [.agg [.lit (.int .i64 a0_0), .lit (.int .i64 a0_1), .row 1 l0_2.length false (ints .i64 l0_2)]] [] (fun v H' => v = .lit (.bool true) ∧ H' = []) := by
 refine ACalls.ofP [2] Try.func3 rfl (by exact Nat.le_of_ble_eq_true rfl) rfl (by decide) ?_
 simp only [Try.ntmps3, env0, laws_FnExactMeetOfBiorders.f] at h ⊢
 refine AWp.seq ?_
 refine AWp.region ?_
 refine L.M M.bx ?_
 refine L.Y Y.asg ?_
 refine AList.nil ?_
 refine AWp.seq ?_
 refine AWp.region ?_
 refine L.Y Y.asg ?_
 refine AList.nil ?_
 refine AWp.seq ?_
 refine AWp.region ?_
 refine L.S (S.ldN Try.underlying24 Y24) ?_
 refine L.Y Y.mv ?_
 replace h := Option.bind_eq_some_iff.1 h
 obtain ⟨t316, hc1, h⟩ := h
 refine L.C (C.callE (l := true) [] Try.func4 (laws_szTable.ac _ _ _ _ _ hc1) .nil ?_)
 refine L.Y Y.asg ?_
 refine AList.nil ?_
 refine AWp.seq ?_
 refine AWp.seq ?_
 refine AWp.region ?_
 refine L.Y Y.mv ?_
 refine L.Y Y.bin ?_
 refine AList.nil ?_
 refine W.cond (fun hb => ?_) (fun hb => ?_)
 ·
  have hb2 := hb
  try simp only [hS, hE, ne_eq] at hb
  first | rw [if_pos hb2] at h | rw [if_neg (Bool.eq_false_iff.1 hb2)] at h | rw [if_pos hb] at h | rw [if_neg hb] at h | (simp only [hb, hT, reduceIte] at h) | skip
  refine AWp.seq ?_
  refine W.kp [0, 1, 2, 3, 18] ?_
  refine AWp.region ?_
  refine L.Y Y.asg ?_
  refine AList.nil ?_
  refine AWp.ret ?_
  first | (exfalso; cases h; done) | exact ⟨.inr rfl, [(2, _)], _, ⟨rfl, rfl⟩, IsPart.at [] [] base0 .nil (E.c .nil (hs := Sub.litE (LV h)))⟩
 ·
  have hb2 := hb
  try simp only [hS, hE, ne_eq] at hb
  first | rw [if_pos hb2] at h | rw [if_neg (Bool.eq_false_iff.1 hb2)] at h | rw [if_pos hb] at h | rw [if_neg hb] at h | (simp only [hb, hT, reduceIte] at h) | skip
  refine AWp.skip ?_
  refine AWp.seq ?_
  refine W.kp [0, 1, 2, 3, 18] ?_
  refine AWp.region ?_
  refine L.S (S.ldN Try.underlying24 Y24) ?_
  replace h := Option.bind_eq_some_iff.1 h
  obtain ⟨⟨t317, t318, t319⟩, hc3, h⟩ := h
  dsimp only at h
  refine L.C (C.callE (l := true) [] Try.func6 (laws_toTable.ac _ _ _ _ _ _ _ hc3) .nil ?_)
  replace h := Option.bind_eq_some_iff.1 h
  obtain ⟨⟨t322, t325⟩, hc4, h⟩ := h
  dsimp only at h
  refine L.C ?_
  refine C.frz 1 ?_
  refine C.callE (l := false) [] Try.func5 (spec_MeetOfBiorders.ac _ _ _ _ _ _ hc4) .nil ?_
  refine L.Y Y.mv ?_
  refine L.Y Y.ex ?_
  refine L.Y Y.ex ?_
  refine L.Y Y.asg ?_
  refine L.Y Y.asg ?_
  refine AList.nil ?_
  refine AWp.seq ?_
  refine W.kp [0, 1, 2, 3, 4, 5, 18] ?_
  refine AWp.region ?_
  refine L.S (S.ldN Try.underlying24 Y24) ?_
  replace h := Option.bind_eq_some_iff.1 h
  obtain ⟨⟨t326, t327, t328⟩, hc5, h⟩ := h
  dsimp only at h
  refine L.C (C.callE (l := true) [] Try.func6 (laws_toTable.ac _ _ _ _ _ _ _ hc5) .nil ?_)
  refine L.M (M.al Y29) ?_
  refine L.S (S.stb Y29) ?_
  refine AList.nil ?_
  refine AWp.seq ?_
  refine AWp.region ?_
  refine L.S (S.ldN Try.underlying29 Y29) ?_
  replace h := Option.bind_eq_some_iff.1 h
  obtain ⟨⟨t332, t335⟩, hc6, h⟩ := h
  dsimp only at h
  refine L.C (C.callE (l := true) [] Try.func7 (impl_MeetOfBiorders.ac _ _ _ _ _ _ hc6) .nil ?_)
  refine L.Y Y.mv ?_
  refine L.Y Y.ex ?_
  refine L.Y Y.ex ?_
  refine L.Y Y.asg ?_
  refine L.Y Y.asg ?_
  refine AList.nil ?_
  refine AWp.seq ?_
  refine AWp.seq ?_
  refine W.kp [0, 1, 2, 3, 4, 5, 6, 7, 8, 18] ?_
  refine AWp.region ?_
  refine L.Y Y.mv ?_
  refine L.Y Y.mv ?_
  replace h := Option.bind_eq_some_iff.1 h
  obtain ⟨t336, hc7, h⟩ := h
  refine L.C (C.callE (l := true) [] Try.func8 (laws_eqTableS.ac _ _ _ _ hc7) .nil ?_)
  refine L.Y Y.nt ?_
  refine L.Y Y.mv ?_
  refine L.Gc (fun hb => ?_) (fun hb => ?_)
  ·
   have hb8 := hb
   try simp only [hS, hE, ne_eq] at hb
   first | rw [if_pos hb8] at h | rw [if_neg (Bool.eq_false_iff.1 hb8)] at h | rw [if_pos hb] at h | rw [if_neg hb] at h | (simp only [hb, hT, reduceIte] at h) | skip
   exfalso
   revert h
   exact fun h => by cases k <;> simp [laws_FnExactMeetOfBiorders.j0] at h
  ·
   have hb8 := hb
   try simp only [hS, hE, ne_eq] at hb
   first | rw [if_pos hb8] at h | rw [if_neg (Bool.eq_false_iff.1 hb8)] at h | rw [if_pos hb] at h | rw [if_neg hb] at h | (simp only [hb, hT, reduceIte] at h) | skip
   refine L.Gy hb8 Y.mv ?_
   refine L.Gy hb8 Y.mv ?_
   refine L.Gy hb8 (Y.bb Try.underlying4) ?_
   refine L.Y (Y.pk (c := false) hb8) ?_
   refine AList.nil ?_
   rcases k with _ | k
   ·
    exact absurd h (by simp [laws_FnExactMeetOfBiorders.j0])
   simp only [laws_FnExactMeetOfBiorders.j0] at h
   refine W.cond (fun hb => ?_) (fun hb => ?_)
   ·
    have hb9 := hb
    try simp only [hS, hE, ne_eq] at hb
    first | rw [if_pos hb9] at h | rw [if_neg (Bool.eq_false_iff.1 hb9)] at h | rw [if_pos hb] at h | rw [if_neg hb] at h | (simp only [hb, hT, reduceIte] at h) | skip
    exfalso
    revert h
    exact fun h => by simp at h
   ·
    have hb9 := hb
    try simp only [hS, hE, ne_eq] at hb
    first | rw [if_pos hb9] at h | rw [if_neg (Bool.eq_false_iff.1 hb9)] at h | rw [if_pos hb] at h | rw [if_neg hb] at h | (simp only [hb, hT, reduceIte] at h) | skip
    refine AWp.skip ?_
    refine AWp.seq ?_
    refine AWp.seq ?_
    refine W.kp [0, 1, 2, 3, 4, 5, 6, 7, 8, 18, 40] ?_
    refine Dt.reg [] [] (.t 0 (.t 1 (.one 2 (.one 3 (.y 4 .done))))) HM ?_
    refine Dt.T rfl wantN (D.ldN Try.underlying29 Y29) ?_
    refine Dt.T rfl wantN (D.ldN Try.underlying24 Y24) ?_
    refine Dt.O (g' := false) rfl wantN ?_
    replace h := Option.bind_eq_some_iff.1 h
    obtain ⟨⟨t337, t338, t339⟩, hc10, h⟩ := h
    dsimp only at h
    refine Ox.C true [] Try.func6 (laws_toTable.ac _ _ _ _ _ _ _ hc10) .nil ?_
    refine Dt.O (g' := false) rfl wantN ?_
    replace h := Option.bind_eq_some_iff.1 h
    obtain ⟨t342, hc11, h⟩ := h
    refine Ox.C true [] Try.func9 (laws_eqTable.ac _ _ _ _ _ _ _ _ hc11) .nil ?_
    refine Dt.Y rfl wantN Y.nt ?_
    refine Dt.nil ?_
    refine W.cond (fun hb => ?_) (fun hb => ?_)
    ·
     have hb12 := hb
     try simp only [hS, hE, ne_eq] at hb
     first | rw [if_pos hb12] at h | rw [if_neg (Bool.eq_false_iff.1 hb12)] at h | rw [if_pos hb] at h | rw [if_neg hb] at h | (simp only [hb, hT, reduceIte] at h) | skip
     exfalso
     revert h
     exact fun h => by simp at h
    ·
     have hb12 := hb
     try simp only [hS, hE, ne_eq] at hb
     first | rw [if_pos hb12] at h | rw [if_neg (Bool.eq_false_iff.1 hb12)] at h | rw [if_pos hb] at h | rw [if_neg hb] at h | (simp only [hb, hT, reduceIte] at h) | skip
     refine AWp.skip ?_
     refine AWp.seq ?_
     refine W.kp [0, 1, 2, 3, 4, 5, 6, 7, 8, 18, 40, 45] ?_
     refine AWp.region ?_
     refine L.Y Y.asg ?_
     refine AList.nil ?_
     refine AWp.seq ?_
     refine AWp.region ?_
     refine L.S (S.ldN Try.underlying29 Y29) ?_
     refine L.Y Y.mv ?_
     replace h := Option.bind_eq_some_iff.1 h
     obtain ⟨⟨t343, t344⟩, hc13, h⟩ := h
     dsimp only at h
     have hl14 := laws_markTable.len _ _ _ _ _ _ _ hc13
     refine L.C (C.callE (l := true) [3] Try.func10 (laws_markTable.ac _ _ _ _ _ _ _ hc13) (H.c .nil) ?_)
     refine L.Y Y.asg ?_
     refine AList.nil ?_
     refine AWp.seq ?_
     refine AWp.seq ?_
     refine AWp.region ?_
     refine L.Y Y.mv ?_
     refine L.Y Y.bin ?_
     refine L.Y Y.mv ?_
     refine L.Gc (fun hb => ?_) (fun hb => ?_)
     ·
      have hb15 := hb
      try simp only [hS, hE, ne_eq] at hb
      first | rw [if_pos hb15] at h | rw [if_neg (Bool.eq_false_iff.1 hb15)] at h | rw [if_pos hb] at h | rw [if_neg hb] at h | (simp only [hb, hT, reduceIte] at h) | skip
      exfalso
      revert h
      exact fun h => by cases k <;> simp [laws_FnExactMeetOfBiorders.j1] at h
     ·
      have hb15 := hb
      try simp only [hS, hE, ne_eq] at hb
      first | rw [if_pos hb15] at h | rw [if_neg (Bool.eq_false_iff.1 hb15)] at h | rw [if_pos hb] at h | rw [if_neg hb] at h | (simp only [hb, hT, reduceIte] at h) | skip
      refine L.Gy hb15 Y.mv ?_
      refine L.Gy hb15 Y.mv ?_
      replace h := Option.bind_eq_some_iff.1 h
      obtain ⟨t345, hc16, h⟩ := h
      refine L.GC hb15 (C.callE (l := true) [] Try.func8 (laws_eqTableS.ac _ _ _ _ hc16) .nil ?_)
      refine L.Gy hb15 Y.nt ?_
      refine L.Y (Y.pk (c := false) hb15) ?_
      refine L.Y Y.mv ?_
      refine L.Gc (fun hb => ?_) (fun hb => ?_)
      ·
       have hb17 := hb
       try simp only [hS, hE, ne_eq] at hb
       first | rw [if_pos hb17] at h | rw [if_neg (Bool.eq_false_iff.1 hb17)] at h | rw [if_pos hb] at h | rw [if_neg hb] at h | (simp only [hb, hT, reduceIte] at h) | skip
       exfalso
       revert h
       exact fun h => by cases k <;> simp [laws_FnExactMeetOfBiorders.j1] at h
      ·
       have hb17 := hb
       try simp only [hS, hE, ne_eq] at hb
       first | rw [if_pos hb17] at h | rw [if_neg (Bool.eq_false_iff.1 hb17)] at h | rw [if_pos hb] at h | rw [if_neg hb] at h | (simp only [hb, hT, reduceIte] at h) | skip
       refine L.Gy hb17 Y.mv ?_
       refine L.Gy hb17 Y.mv ?_
       refine L.Gy hb17 (Y.bb Try.underlying4) ?_
       refine L.Y (Y.pk (c := false) hb17) ?_
       refine AList.nil ?_
       rcases k with _ | k
       ·
        exact absurd h (by simp [laws_FnExactMeetOfBiorders.j1])
       simp only [laws_FnExactMeetOfBiorders.j1] at h
       refine W.cond (fun hb => ?_) (fun hb => ?_)
       ·
        have hb18 := hb
        try simp only [hS, hE, ne_eq] at hb
        first | rw [if_pos hb18] at h | rw [if_neg (Bool.eq_false_iff.1 hb18)] at h | rw [if_pos hb] at h | rw [if_neg hb] at h | (simp only [hb, hT, reduceIte] at h) | skip
        exfalso
        revert h
        exact fun h => by simp at h
       ·
        have hb18 := hb
        try simp only [hS, hE, ne_eq] at hb
        first | rw [if_pos hb18] at h | rw [if_neg (Bool.eq_false_iff.1 hb18)] at h | rw [if_pos hb] at h | rw [if_neg hb] at h | (simp only [hb, hT, reduceIte] at h) | skip
        refine AWp.skip ?_
        refine AWp.seq ?_
        refine W.kp [0, 1, 2, 3, 4, 5, 6, 7, 8, 9, 18, 40, 45, 61] ?_
        refine AWp.region ?_
        refine L.Y Y.asg ?_
        refine AList.nil ?_
        refine AWp.seq ?_
        refine AWp.region ?_
        refine L.Y Y.mv ?_
        refine L.Y Y.mv ?_
        replace h := Option.bind_eq_some_iff.1 h
        obtain ⟨⟨t346, t347⟩, hc19, h⟩ := h
        dsimp only at h
        have hl20 := laws_markTableS.len _ _ _ _ _ hc19
        refine L.C (C.callE (l := true) [5] Try.func11 (laws_markTableS.ac _ _ _ _ _ hc19) (H.c .nil) ?_)
        refine L.Y Y.asg ?_
        refine AList.nil ?_
        refine AWp.seq ?_
        refine AWp.region ?_
        refine L.Y Y.asg ?_
        refine AList.nil ?_
        refine AWp.seq ?_
        refine AWp.region ?_
        refine L.Y Y.mv ?_
        refine L.Y Y.mv ?_
        replace h := Option.bind_eq_some_iff.1 h
        obtain ⟨t348, hc21, h⟩ := h
        refine L.C (C.callE (l := true) [] Try.func12 (laws_heldTableS.ac _ _ _ _ hc21) .nil ?_)
        refine L.Y Y.asg ?_
        refine AList.nil ?_
        refine AWp.seq ?_
        refine AWp.seq ?_
        refine W.kp [0, 1, 2, 3, 4, 5, 6, 7, 8, 9, 10, 11, 18, 40, 45, 61] ?_
        refine AWp.region ?_
        refine L.Y Y.mv ?_
        refine L.Y Y.bin ?_
        refine AList.nil ?_
        refine W.cond (fun hb => ?_) (fun hb => ?_)
        ·
         have hb22 := hb
         try simp only [hS, hE, ne_eq] at hb
         first | rw [if_pos hb22] at h | rw [if_neg (Bool.eq_false_iff.1 hb22)] at h | rw [if_pos hb] at h | rw [if_neg hb] at h | (simp only [hb, hT, reduceIte] at h) | skip
         exfalso
         revert h
         exact fun h => by simp at h
        ·
         have hb22 := hb
         try simp only [hS, hE, ne_eq] at hb
         first | rw [if_pos hb22] at h | rw [if_neg (Bool.eq_false_iff.1 hb22)] at h | rw [if_pos hb] at h | rw [if_neg hb] at h | (simp only [hb, hT, reduceIte] at h) | skip
         refine AWp.skip ?_
         refine AWp.seq ?_
         refine AWp.seq ?_
         refine AWp.region ?_
         refine L.Y Y.mv ?_
         refine L.Y Y.mv ?_
         refine L.Y Y.bin ?_
         refine AList.nil ?_
         refine W.cond (fun hb => ?_) (fun hb => ?_)
         ·
          have hb23 := hb
          try simp only [hS, hE, ne_eq] at hb
          first | rw [if_pos hb23] at h | rw [if_neg (Bool.eq_false_iff.1 hb23)] at h | rw [if_pos hb] at h | rw [if_neg hb] at h | (simp only [hb, hT, reduceIte] at h) | skip
          exfalso
          revert h
          exact fun h => by simp at h
         ·
          have hb23 := hb
          try simp only [hS, hE, ne_eq] at hb
          first | rw [if_pos hb23] at h | rw [if_neg (Bool.eq_false_iff.1 hb23)] at h | rw [if_pos hb] at h | rw [if_neg hb] at h | (simp only [hb, hT, reduceIte] at h) | skip
          refine AWp.skip ?_
          refine AWp.seq ?_
          refine AWp.region ?_
          refine L.S (S.ldN Try.underlying24 Y24) ?_
          replace h := Option.bind_eq_some_iff.1 h
          obtain ⟨⟨t349, t350, t351⟩, hc24, h⟩ := h
          dsimp only at h
          refine L.C (C.callE (l := true) [] Try.func6 (laws_toTable.ac _ _ _ _ _ _ _ hc24) .nil ?_)
          replace h := Option.bind_eq_some_iff.1 h
          obtain ⟨⟨t354, t357⟩, hc25, h⟩ := h
          dsimp only at h
          refine L.C (C.callE (l := true) [] Try.func7 (impl_MeetOfBiorders.ac _ _ _ _ _ _ hc25) .nil ?_)
          refine L.Y Y.mv ?_
          refine L.Y Y.ex ?_
          refine L.Y Y.ex ?_
          refine L.Y Y.asg ?_
          refine L.Y Y.asg ?_
          refine AList.nil ?_
          refine AWp.seq ?_
          refine AWp.seq ?_
          refine W.kp [0, 1, 2, 3, 4, 5, 6, 7, 8, 9, 10, 11, 12, 13, 18, 40, 45, 61, 69, 72] ?_
          refine AWp.region ?_
          refine L.Y Y.mv ?_
          refine L.Y Y.mv ?_
          replace h := Option.bind_eq_some_iff.1 h
          obtain ⟨t358, hc26, h⟩ := h
          refine L.C (C.callE (l := true) [] Try.func8 (laws_eqTableS.ac _ _ _ _ hc26) .nil ?_)
          refine L.Y Y.nt ?_
          refine L.Y Y.mv ?_
          refine L.Gc (fun hb => ?_) (fun hb => ?_)
          ·
           have hb27 := hb
           try simp only [hS, hE, ne_eq] at hb
           first | rw [if_pos hb27] at h | rw [if_neg (Bool.eq_false_iff.1 hb27)] at h | rw [if_pos hb] at h | rw [if_neg hb] at h | (simp only [hb, hT, reduceIte] at h) | skip
           exfalso
           revert h
           exact fun h => by cases k <;> simp [laws_FnExactMeetOfBiorders.j2] at h
          ·
           have hb27 := hb
           try simp only [hS, hE, ne_eq] at hb
           first | rw [if_pos hb27] at h | rw [if_neg (Bool.eq_false_iff.1 hb27)] at h | rw [if_pos hb] at h | rw [if_neg hb] at h | (simp only [hb, hT, reduceIte] at h) | skip
           refine L.Gy hb27 Y.mv ?_
           refine L.Gy hb27 Y.mv ?_
           refine L.Gy hb27 (Y.bb Try.underlying4) ?_
           refine L.Y (Y.pk (c := false) hb27) ?_
           refine AList.nil ?_
           rcases k with _ | k
           ·
            exact absurd h (by simp [laws_FnExactMeetOfBiorders.j2])
           simp only [laws_FnExactMeetOfBiorders.j2] at h
           refine W.cond (fun hb => ?_) (fun hb => ?_)
           ·
            have hb28 := hb
            try simp only [hS, hE, ne_eq] at hb
            first | rw [if_pos hb28] at h | rw [if_neg (Bool.eq_false_iff.1 hb28)] at h | rw [if_pos hb] at h | rw [if_neg hb] at h | (simp only [hb, hT, reduceIte] at h) | skip
            exfalso
            revert h
            exact fun h => by simp at h
           ·
            have hb28 := hb
            try simp only [hS, hE, ne_eq] at hb
            first | rw [if_pos hb28] at h | rw [if_neg (Bool.eq_false_iff.1 hb28)] at h | rw [if_pos hb] at h | rw [if_neg hb] at h | (simp only [hb, hT, reduceIte] at h) | skip
            refine AWp.skip ?_
            refine AWp.seq ?_
            refine W.kp [0, 1, 2, 3, 4, 5, 6, 7, 8, 9, 10, 11, 12, 13, 18, 40, 45, 61, 69, 72, 87] ?_
            refine AWp.region ?_
            refine L.Y Y.asg ?_
            refine AList.nil ?_
            refine AWp.seq ?_
            refine AWp.region ?_
            refine L.Y Y.mv ?_
            refine L.Y Y.mv ?_
            replace h := Option.bind_eq_some_iff.1 h
            obtain ⟨t359, hc29, h⟩ := h
            refine L.C (C.callE (l := true) [] Try.func12 (laws_heldTableS.ac _ _ _ _ hc29) .nil ?_)
            refine L.Y Y.asg ?_
            refine AList.nil ?_
            refine AWp.seq ?_
            refine AWp.seq ?_
            refine AWp.region ?_
            refine L.Y Y.mv ?_
            refine L.Y Y.bin ?_
            refine AList.nil ?_
            refine W.cond (fun hb => ?_) (fun hb => ?_)
            ·
             have hb30 := hb
             try simp only [hS, hE, ne_eq] at hb
             first | rw [if_pos hb30] at h | rw [if_neg (Bool.eq_false_iff.1 hb30)] at h | rw [if_pos hb] at h | rw [if_neg hb] at h | (simp only [hb, hT, reduceIte] at h) | skip
             exfalso
             revert h
             exact fun h => by simp at h
            ·
             have hb30 := hb
             try simp only [hS, hE, ne_eq] at hb
             first | rw [if_pos hb30] at h | rw [if_neg (Bool.eq_false_iff.1 hb30)] at h | rw [if_pos hb] at h | rw [if_neg hb] at h | (simp only [hb, hT, reduceIte] at h) | skip
             refine AWp.skip ?_
             refine AWp.seq ?_
             refine AWp.seq ?_
             refine W.kp [0, 1, 2, 3, 4, 5, 6, 7, 8, 9, 10, 11, 12, 13, 18, 40, 45, 61, 69, 72, 87, 92] ?_
             refine AWp.region ?_
             refine L.Y Y.mv ?_
             refine L.Y Y.mv ?_
             refine L.Y Y.bin ?_
             refine AList.nil ?_
             refine W.cond (fun hb => ?_) (fun hb => ?_)
             ·
              have hb31 := hb
              try simp only [hS, hE, ne_eq] at hb
              first | rw [if_pos hb31] at h | rw [if_neg (Bool.eq_false_iff.1 hb31)] at h | rw [if_pos hb] at h | rw [if_neg hb] at h | (simp only [hb, hT, reduceIte] at h) | skip
              exfalso
              revert h
              exact fun h => by simp at h
             ·
              have hb31 := hb
              try simp only [hS, hE, ne_eq] at hb
              first | rw [if_pos hb31] at h | rw [if_neg (Bool.eq_false_iff.1 hb31)] at h | rw [if_pos hb] at h | rw [if_neg hb] at h | (simp only [hb, hT, reduceIte] at h) | skip
              refine AWp.skip ?_
              refine AWp.seq ?_
              refine AWp.region ?_
              refine L.Y Y.asg ?_
              refine AList.nil ?_
              refine AWp.ret ?_
              first | (exfalso; cases h; done) | exact ⟨.inr rfl, [(2, _)], _, ⟨rfl, rfl⟩, IsPart.at [] [] base0 .nil (E.c .nil (hs := Sub.litE (LV h)))⟩

/-- THE ONE PURE STATEMENT of laws_FnExactMeetOfBiorders: yours. -/
def laws_FnExactMeetOfBiorders.Pure : Prop := ∀ (a0_0 : Int) (a0_1 : Int) (l0_2 : List Int), (Lit.int .i64 a0_0).wf = true → (Lit.int .i64 a0_1).wf = true → l0_2.length ≤ maxLen → (∀ x ∈ l0_2, (Lit.int .i64 x).wf = true) → ∃ k, laws_FnExactMeetOfBiorders.f k a0_0 a0_1 l0_2 = some true
theorem laws_FnExactMeetOfBiorders.walk (P : laws_FnExactMeetOfBiorders.Pure) (a0_0 : Int) (a0_1 : Int) (a0_2 : Option Addr) (len0_2 cap0_2 : Nat) (z0_2 : List Int) (w : World) (w0_0 : (Lit.int .i64 a0_0).wf = true) (w0_1 : (Lit.int .i64 a0_1).wf = true) (w0_2 : (a0_2 = none ∧ len0_2 = 0 ∧ cap0_2 = 0 ∧ z0_2 = []) ∨ ∃ x, a0_2 = some x ∧ len0_2 ≤ cap0_2 ∧ cap0_2 ≤ maxLen ∧ z0_2.length = cap0_2 ∧ (∀ i, i < z0_2.length → w.cell? (x.add i) = some (.int .i64 (z0_2.getD i 0))) ∧ ∀ n ∈ z0_2, (Lit.int .i64 n).wf = true) :
  Calls Try.prog 3 #[.agg #[.int .i64 a0_0, .int .i64 a0_1, .slice a0_2 len0_2 cap0_2]] w fun e w' => e = .returned (.bool true) ∧ Below w.heap.size w w' := by
 obtain ⟨hl0_2, hv0_2⟩ := VR.came (A0 := fun _ => .bool false) (H := []) w0_2
 obtain ⟨hm0_2, hw0_2⟩ := came_fits w0_2
 obtain ⟨k, h⟩ := P a0_0 a0_1 (z0_2.take len0_2) w0_0 w0_1 hm0_2 hw0_2
 refine ACalls.law (vs := [.agg #[.int .i64 a0_0, .int .i64 a0_1, .slice a0_2 len0_2 cap0_2]]) (fun p hp => by cases hp) (laws_FnExactMeetOfBiorders.ac k a0_0 a0_1 (z0_2.take len0_2) h) ?_
 repeat' first | assumption | exact VRs_nil | exact VR_lit | refine VRs_cons ?_ ?_ | refine VR_agg ?_

end Go.Proofs.Ytboaffpfphkneaa.PFnExactMeetOfBiorders
