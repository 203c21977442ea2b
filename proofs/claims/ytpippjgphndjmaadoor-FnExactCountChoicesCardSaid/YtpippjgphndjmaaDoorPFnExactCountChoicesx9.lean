-- Written by a program of this session's (wip/myprint2): the functions by the kit's print, the walks by awgen.py. Lean checks it.
import Derived.Test.YtpippjgphndjmaaDoorPFnExactCountChoicesx0
import Derived.Test.YtpippjgphndjmaaDoorPFnExactCountChoicesx4
import Derived.Test.YtpippjgphndjmaaDoorPFnExactCountChoicesx8
namespace Go.Proofs.YtpippjgphndjmaaDoor.PFnExactCountChoices
open Go.RowKit Go.Proofs.YtpippjgphndjmaaDoorW.PrintWords Go.Proofs.YtpippjgphndjmaaDoorW.PrintLast Go.Proofs.YtpippjgphndjmaaDoorW.PrintMore Go.Proofs.YtpippjgphndjmaaDoorM Go.Proofs.YtpippjgphndjmaaDoorA Go.Proofs.YtpippjgphndjmaaDoorT
attribute [local go_sem] max2_int min2_int max_two min_two max_three min_three max_four min_four   -- for this text's walks alone
set_option linter.unusedVariables false
set_option linter.unusedSimpArgs false

/-! ### laws_FnExactCountChoices: function 5 -/
def laws_FnExactCountChoices.f (k : Nat) (a0 : Int) (a1 : Int) : Option (Bool) := (spec_CountChoices.f k a0 a1).bind fun bt384 => ((impl_CountChoices.f k a0 a1).bind fun bt386 => (if bt386.1 = bt384.1 then (if (bt386.2 != bt384.2) = true then (some false) else (some true)) else (some false)))
set_option maxRecDepth 100000 in
set_option maxHeartbeats 20000000 in
theorem laws_FnExactCountChoices.ac (k : Nat) (a0 : Int) (a1 : Int)  (h : laws_FnExactCountChoices.f k a0 a1 = some true) :
  ACalls Tryd.prog 5 [.lit (.int .i64 a0), .lit (.int .i64 a1)] [] (fun v H' => v = .lit (.bool true) ∧ H' = []) := by
 refine ACalls.ofP [4] Tryd.func5 rfl (by exact Nat.le_of_ble_eq_true rfl) rfl (by decide) ?_
 simp only [Tryd.ntmps5, env0, laws_FnExactCountChoices.f] at h ⊢
 refine AWp.seq ?_
 refine AWp.region ?_
 refine L.Y Y.asg ?_
 refine AList.nil ?_
 refine AWp.seq ?_
 refine AWp.region ?_
 refine L.Y Y.mv ?_
 refine L.Y Y.mv ?_
 replace h := Option.bind_eq_some_iff.1 h
 obtain ⟨⟨t384, t385⟩, hc1, h⟩ := h
 dsimp only at h
 refine L.C (C.callE (l := true) [] Tryd.func31 (spec_CountChoices.ac _ _ _ _ _ hc1) .nil ?_)
 refine L.Y Y.mv ?_
 refine L.Y Y.ex ?_
 refine L.Y Y.ex ?_
 refine L.Y Y.asg ?_
 refine L.Y Y.asg ?_
 refine AList.nil ?_
 refine AWp.seq ?_
 refine W.kp [0, 1, 4, 5, 6] ?_
 refine AWp.region ?_
 refine L.Y Y.mv ?_
 refine L.Y Y.mv ?_
 replace h := Option.bind_eq_some_iff.1 h
 obtain ⟨⟨t386, t387⟩, hc2, h⟩ := h
 dsimp only at h
 refine L.C (C.callE (l := true) [] Tryd.func32 (impl_CountChoices.ac _ _ _ _ _ hc2) .nil ?_)
 refine L.Y Y.mv ?_
 refine L.Y Y.ex ?_
 refine L.Y Y.ex ?_
 refine L.Y Y.asg ?_
 refine L.Y Y.asg ?_
 refine AList.nil ?_
 refine AWp.seq ?_
 refine AWp.seq ?_
 refine W.kp [0, 1, 4, 5, 6, 7, 8] ?_
 refine AWp.region ?_
 refine L.Y Y.mv ?_
 refine L.Y Y.mv ?_
 refine L.Y Y.bin ?_
 refine L.Y Y.mv ?_
 refine L.Gc (fun hb => ?_) (fun hb => ?_)
 ·
  have hb3 := hb
  try simp only [hS, hE, ne_eq] at hb
  first | rw [if_pos hb3] at h | rw [if_neg (Bool.eq_false_iff.1 hb3)] at h | rw [if_pos hb] at h | rw [if_neg hb] at h | (simp only [hb, hT, reduceIte] at h) | skip
  exfalso
  revert h
  exact fun h => by simp at h
 ·
  have hb3 := hb
  try simp only [hS, hE, ne_eq] at hb
  first | rw [if_pos hb3] at h | rw [if_neg (Bool.eq_false_iff.1 hb3)] at h | rw [if_pos hb] at h | rw [if_neg hb] at h | (simp only [hb, hT, reduceIte] at h) | skip
  refine L.Gy hb3 Y.mv ?_
  refine L.Gy hb3 Y.mv ?_
  refine L.Gy hb3 (Y.bb Tryd.underlying4) ?_
  refine L.Y (Y.pk (c := false) hb3) ?_
  refine AList.nil ?_
  refine W.cond (fun hb => ?_) (fun hb => ?_)
  ·
   have hb4 := hb
   try simp only [hS, hE, ne_eq] at hb
   first | rw [if_pos hb4] at h | rw [if_neg (Bool.eq_false_iff.1 hb4)] at h | rw [if_pos hb] at h | rw [if_neg hb] at h | (simp only [hb, hT, reduceIte] at h) | skip
   exfalso
   revert h
   exact fun h => by simp at h
  ·
   have hb4 := hb
   try simp only [hS, hE, ne_eq] at hb
   first | rw [if_pos hb4] at h | rw [if_neg (Bool.eq_false_iff.1 hb4)] at h | rw [if_pos hb] at h | rw [if_neg hb] at h | (simp only [hb, hT, reduceIte] at h) | skip
   refine AWp.skip ?_
   refine AWp.seq ?_
   refine W.kp [0, 1, 4, 5, 6, 7, 8, 28] ?_
   refine AWp.region ?_
   refine L.Y Y.asg ?_
   refine AList.nil ?_
   refine AWp.ret ?_
   first | (exfalso; cases h; done) | exact ⟨.inr rfl, [(4, _)], _, ⟨rfl, rfl⟩, IsPart.at [] [] base0 .nil (E.c .nil (hs := Sub.litE (LV h)))⟩

/-- THE ONE PURE STATEMENT of laws_FnExactCountChoices: yours. -/
def laws_FnExactCountChoices.Pure : Prop := ∀ (a0 : Int) (a1 : Int), (Lit.int .i64 a0).wf = true → (Lit.int .i64 a1).wf = true → ∃ k, laws_FnExactCountChoices.f k a0 a1 = some true
theorem laws_FnExactCountChoices.walk (P : laws_FnExactCountChoices.Pure) (a0 : Int) (a1 : Int) (w : World) (hT : TabIn w) (w0 : (Lit.int .i64 a0).wf = true) (w1 : (Lit.int .i64 a1).wf = true) :
  Calls Tryd.prog 5 #[.int .i64 a0, .int .i64 a1] w fun e w' => e = .returned (.bool true) ∧ Below w.heap.size w w' := by
 obtain ⟨k, h⟩ := P a0 a1 w0 w1
 refine ACalls.law (vs := [.int .i64 a0, .int .i64 a1]) (tabP_of hT) (laws_FnExactCountChoices.ac k a0 a1 h) ?_
 repeat' first | assumption | exact VRs_nil | exact VR_lit | refine VRs_cons ?_ ?_ | refine VR_agg ?_

end Go.Proofs.YtpippjgphndjmaaDoor.PFnExactCountChoices
