-- Written by a program of this session's (wip/myprint2): the functions by the kit's print, the walks by awgen.py. Lean checks it.
import Derived.Test.YtpippjgphndjmaaDoorPFnChoicesOfOrdersx0
import Derived.Test.YtpippjgphndjmaaDoorPFnChoicesOfOrdersx1
import Derived.Test.YtpippjgphndjmaaDoorPFnChoicesOfOrdersx2
import Derived.Test.YtpippjgphndjmaaDoorPFnChoicesOfOrdersx4
namespace Go.Proofs.YtpippjgphndjmaaDoor.PFnChoicesOfOrders
open Go.RowKit Go.Proofs.YtpippjgphndjmaaDoorW.PrintWords Go.Proofs.YtpippjgphndjmaaDoorW.PrintLast Go.Proofs.YtpippjgphndjmaaDoorW.PrintMore Go.Proofs.YtpippjgphndjmaaDoorM Go.Proofs.YtpippjgphndjmaaDoorA Go.Proofs.YtpippjgphndjmaaDoorT
attribute [local go_sem] max2_int min2_int max_two min_two max_three min_three max_four min_four   -- for this text's walks alone
set_option linter.unusedVariables false
set_option linter.unusedSimpArgs false

/-! ### impl_Order_choice: function 83 -/
def impl_Order_choice.l0 : Nat → Int → Int → List Int → Int → Int → Int → List Int → Option (Int)
 | 0, _, _, _, _, _, _, _ => none
 | k + 1, x1, x5, x9, x10, x11, x281000, x281001 => if x11 < x10 then (if 0 ≤ x11 then (if x11 < (x9.length : Int) then (if 0 ≤ (rd x9 x11) then (if (rd x9 x11) < (x281001.length : Int) then (if (Go.bits .and .i64 (rd x281001 (rd x9 x11)) x1) = 0 then (impl_Order_choice.l0 k x1 (Go.bits .or .i64 x5 (shl .i64 1 (rd x9 x11))) x9 x10 (wrap64 (x11 + 1)) x281000 x281001) else (impl_Order_choice.l0 k x1 x5 x9 x10 (wrap64 (x11 + 1)) x281000 x281001)) else (none)) else (none)) else (none)) else (none)) else (some x5)
def impl_Order_choice.f (k : Nat) (a0_0 : Int) (l0_1 : List Int) (a1 : Int) : Option (Int) := (impl_members.f k a1).bind fun t281 => (impl_Order_choice.l0 k a1 0 t281 (t281.length : Int) 0 a0_0 l0_1)
set_option maxRecDepth 100000 in
set_option maxHeartbeats 20000000 in
theorem impl_Order_choice.ac (k : Nat) (a0_0 : Int) (l0_1 : List Int) (a1 : Int) (r : Int) (h : impl_Order_choice.f k a0_0 l0_1 a1 = some r) :
  ACalls Tryd.prog 83 [.agg [.lit (.int .i64 a0_0), .row 1 l0_1.length false (ints .i64 l0_1)], .lit (.int .i64 a1)] [] (fun v H' => v = .lit (.int .i64 r) ∧ H' = []) := by
 refine ACalls.ofP [4] Tryd.func83 rfl (by exact Nat.le_of_ble_eq_true rfl) rfl (by decide) ?_
 simp only [Tryd.ntmps83, env0, impl_Order_choice.f] at h ⊢
 refine AWp.seq ?_
 refine AWp.region ?_
 refine L.M M.bx ?_
 refine L.Y Y.asg ?_
 refine AList.nil ?_
 refine AWp.seq ?_
 refine AWp.region ?_
 refine L.Y Y.asg ?_
 refine AList.nil ?_
 refine AWp.seq ?_
 refine AWp.seq ?_
 refine AWp.region ?_
 refine L.Y Y.mv ?_
 replace h := Option.bind_eq_some_iff.1 h
 obtain ⟨t281, hc1, h⟩ := h
 refine L.C (C.callE (l := true) [] Tryd.func89 (impl_members.ac _ _ _ hc1) .nil ?_)
 refine L.Y (Y.ln Tryd.underlying22) ?_
 refine L.Y Y.mv ?_
 refine AList.nil ?_
 refine AWp.block ?_
 refine AWp.loopI (fun kk e H => kk ≤ k ∧ ∃ (x1 : Int) (x5 : Int) (x9 : List Int) (x10 : Int) (x11 : Int) (x281000 : Int), e = [(1, .lit (.int .i64 x1)), (2, .ptr 0 0), (5, .lit (.int .i64 x5)), (9, .own 1 x9.length), (10, .lit (.int .i64 x10)), (11, .lit (.int .i64 x11))] ∧ H = [.bx 30 [.lit (.int .i64 x281000), .row 1 l0_1.length false (ints .i64 l0_1)], .sl 3 1 x9.length false (ints .i64 x9)] ∧ impl_Order_choice.l0 kk x1 x5 x9 x10 x11 x281000 l0_1 = some r) (k := k)
  ⟨_, _, ⟨Nat.le_refl _, _, _, _, _, _, _, rfl, rfl, h⟩, IsPart.at [] [0, 1] base0 (H.c (H.c .nil)) (E.c (E.c (E.c (E.c (E.c (E.c .nil))))))⟩ ?_
 clear h
 rintro k2 e H ⟨hk3, x1, x5, x9, x10, x11, x281000, rfl, rfl, h⟩
 cases k2 with
 | zero => exact absurd h (by simp [impl_Order_choice.l0])
 | succ k2 =>
 simp only [impl_Order_choice.l0] at h
 refine AWp.seq ?_
 refine AWp.region ?_
 refine L.Y Y.bin ?_
 refine AList.nil ?_
 refine AWp.seq ?_
 refine W.cond (fun hb => ?_) (fun hb => ?_)
 ·
  have hb4 := hb
  try simp only [hS, hE, ne_eq] at hb
  first | rw [if_pos hb4] at h | rw [if_neg (Bool.eq_false_iff.1 hb4)] at h | rw [if_pos hb] at h | rw [if_neg hb] at h | (simp only [hb, hT, reduceIte] at h) | skip
  repeat (first | (rw [iN] at h; obtain ⟨_, h⟩ := h) | (rw [iP] at h; obtain ⟨_, h⟩ := h) | (simp only [bS] at h))
  refine AWp.skip ?_
  refine AWp.seq ?_
  refine AWp.block ?_
  refine AWp.seq ?_
  refine AWp.region ?_
  refine L.Y (Y.ixo Tryd.underlying22 Y3) ?_
  refine L.S (S.ld Tryd.underlying3) ?_
  refine L.Y Y.asg ?_
  refine AList.nil ?_
  refine AWp.seq ?_
  refine AWp.region ?_
  refine L.Y (Y.fa (off := 1) Tryd.underlying30 Y22) ?_
  refine L.S (S.ld Tryd.underlying22) ?_
  refine L.Y Y.mv ?_
  refine L.Y (Y.ixr Tryd.underlying22 Y3) ?_
  refine L.S (S.ld Tryd.underlying3) ?_
  refine L.Y Y.mv ?_
  refine L.Y Y.bin ?_
  refine L.Y Y.bin ?_
  refine AList.nil ?_
  refine W.cond (fun hb => ?_) (fun hb => ?_)
  ·
   have hb5 := hb
   try simp only [hS, hE, ne_eq] at hb
   first | rw [if_pos hb5] at h | rw [if_neg (Bool.eq_false_iff.1 hb5)] at h | rw [if_pos hb] at h | rw [if_neg hb] at h | (simp only [hb, hT, reduceIte] at h) | skip
   refine W.kp [1, 2, 5, 7, 9, 10, 11, 12, 22] ?_
   refine AWp.region ?_
   refine L.Y Y.mv ?_
   refine L.Y Y.mv ?_
   refine L.Y Y.bin ?_
   refine L.Y Y.bin ?_
   refine L.Y Y.asg ?_
   refine AList.nil ?_
   refine W.kp [1, 2, 5, 7, 9, 10, 11, 12, 22] ?_
   refine AWp.region ?_
   refine L.Y Y.bin ?_
   refine L.Y Y.mv ?_
   refine AList.nil ?_
   exact ⟨k2, by omega, _, _, ⟨by omega, _, _, _, _, _, _, rfl, rfl, h⟩, IsPart.at [] [0, 1] base0 (H.c (H.c .nil)) (E.c (E.c (E.c (E.c (E.c (E.c .nil))))))⟩
  ·
   have hb5 := hb
   try simp only [hS, hE, ne_eq] at hb
   first | rw [if_pos hb5] at h | rw [if_neg (Bool.eq_false_iff.1 hb5)] at h | rw [if_pos hb] at h | rw [if_neg hb] at h | (simp only [hb, hT, reduceIte] at h) | skip
   refine AWp.skip ?_
   refine W.kp [1, 2, 5, 7, 9, 10, 11, 12, 22] ?_
   refine AWp.region ?_
   refine L.Y Y.bin ?_
   refine L.Y Y.mv ?_
   refine AList.nil ?_
   exact ⟨k2, by omega, _, _, ⟨by omega, _, _, _, _, _, _, rfl, rfl, h⟩, IsPart.at [] [0, 1] base0 (H.c (H.c .nil)) (E.c (E.c (E.c (E.c (E.c (E.c .nil))))))⟩
 ·
  have hb4 := hb
  try simp only [hS, hE, ne_eq] at hb
  first | rw [if_pos hb4] at h | rw [if_neg (Bool.eq_false_iff.1 hb4)] at h | rw [if_pos hb] at h | rw [if_neg hb] at h | (simp only [hb, hT, reduceIte] at h) | skip
  refine AWp.exit ?_
  refine AWp.seq ?_
  refine AWp.region ?_
  refine L.Y Y.mv ?_
  refine L.Y Y.asg ?_
  refine AList.nil ?_
  obtain rfl := Option.some.inj h
  refine AWp.ret ?_
  exact ⟨.inr rfl, [(4, _)], _, ⟨rfl, rfl⟩, IsPart.at [] [] base0 .nil (E.c .nil)⟩

/-! ### impl_ChoiceOf: function 24 -/
def impl_ChoiceOf.f (k : Nat) (a0_0 : Int) (l0_1 : List Int) (a1 : Int) : Option (Int × Bool) := (impl_IsRelation.f k a0_0 l0_1).bind fun t287 => (if t287 = true then ((impl_Order_all.f a0_0 l0_1).bind fun t288 => ((impl_within.f a1 0 t288).bind fun t289 => (if t289 = true then ((impl_Order_choice.f k a0_0 l0_1 a1).bind fun t290 => (some (t290, true))) else (some (0, false))))) else (some (0, false)))
set_option maxRecDepth 100000 in
set_option maxHeartbeats 20000000 in
theorem impl_ChoiceOf.ac (k : Nat) (a0_0 : Int) (l0_1 : List Int) (a1 : Int) (r1 : Int) (r2 : Bool) (h : impl_ChoiceOf.f k a0_0 l0_1 a1 = some (r1, r2)) :
  ACalls Tryd.prog 24 [.agg [.lit (.int .i64 a0_0), .row 1 l0_1.length false (ints .i64 l0_1)], .lit (.int .i64 a1)] [] (fun v H' => v = .tup [.lit (.int .i64 r1), .lit (.bool r2)] ∧ H' = []) := by
 refine ACalls.ofP [4, 5] Tryd.func24 rfl (by exact Nat.le_of_ble_eq_true rfl) rfl (by decide) ?_
 simp only [Tryd.ntmps24, env0, impl_ChoiceOf.f] at h ⊢
 refine AWp.seq ?_
 refine AWp.region ?_
 refine L.M M.bx ?_
 refine L.Y Y.asg ?_
 refine L.Y Y.asg ?_
 refine AList.nil ?_
 refine AWp.seq ?_
 refine AWp.seq ?_
 refine AWp.region ?_
 refine L.S (S.ldN Tryd.underlying30 Y30) ?_
 replace h := Option.bind_eq_some_iff.1 h
 obtain ⟨t287, hc1, h⟩ := h
 refine L.C (C.callE (l := true) [] Tryd.func28 (impl_IsRelation.ac _ _ _ _ hc1) .nil ?_)
 refine L.Y Y.nt ?_
 refine L.Y Y.mv ?_
 refine L.Gc (fun hb => ?_) (fun hb => ?_)
 ·
  have hb2 := hb
  try simp only [hS, hE, ne_eq] at hb
  first | rw [if_pos hb2] at h | rw [if_neg (Bool.eq_false_iff.1 hb2)] at h | rw [if_pos hb] at h | rw [if_neg hb] at h | (simp only [hb, hT, reduceIte] at h) | skip
  refine L.Gn hb2 ?_
  refine L.Gn hb2 ?_
  refine L.Gn hb2 ?_
  refine L.Gn hb2 ?_
  refine L.Gn hb2 ?_
  refine L.Y (Y.pk (c := true) hb2) ?_
  refine AList.nil ?_
  refine W.cond (fun hb => ?_) (fun hb => ?_)
  rotate_left
  ·
   first | exact Bool.false_ne_true ((Eq.symm (by assumption)).trans hb) | exact Bool.false_ne_true (hb.symm.trans (by assumption)) | exact DD hb
  have hb3 := hb
  refine AWp.seq ?_
  refine W.kp [0, 1, 2, 4, 5, 15] ?_
  refine AWp.region ?_
  refine L.Y Y.asg ?_
  refine L.Y Y.asg ?_
  refine AList.nil ?_
  simp only [Option.some.injEq, Prod.mk.injEq] at h
  obtain ⟨rfl, rfl⟩ := h
  refine AWp.ret ?_
  exact ⟨.inr rfl, [(4, _), (5, _)], _, ⟨rfl, rfl⟩, IsPart.at [] [] base0 .nil (E.c (E.c .nil))⟩
 ·
  have hb2 := hb
  try simp only [hS, hE, ne_eq] at hb
  first | rw [if_pos hb2] at h | rw [if_neg (Bool.eq_false_iff.1 hb2)] at h | rw [if_pos hb] at h | rw [if_neg hb] at h | (simp only [hb, hT, reduceIte] at h) | skip
  refine L.Gy hb2 Y.mv ?_
  refine L.Gs hb2 (S.ldN Tryd.underlying30 Y30) ?_
  replace h := Option.bind_eq_some_iff.1 h
  obtain ⟨t288, hc4, h⟩ := h
  refine L.GC hb2 (C.callE (l := true) [] Tryd.func82 (impl_Order_all.ac _ _ _ hc4) .nil ?_)
  replace h := Option.bind_eq_some_iff.1 h
  obtain ⟨t289, hc5, h⟩ := h
  refine L.GC hb2 (C.callE (l := true) [] Tryd.func68 (impl_within.ac _ _ _ _ hc5) .nil ?_)
  refine L.Gy hb2 Y.nt ?_
  refine L.Y (Y.pk (c := false) hb2) ?_
  refine AList.nil ?_
  refine W.cond (fun hb => ?_) (fun hb => ?_)
  ·
   have hb6 := hb
   try simp only [hS, hE, ne_eq] at hb
   first | rw [if_pos hb6] at h | rw [if_neg (Bool.eq_false_iff.1 hb6)] at h | rw [if_pos hb] at h | rw [if_neg hb] at h | (simp only [hb, hT, reduceIte] at h) | skip
   refine AWp.seq ?_
   refine W.kp [0, 1, 2, 4, 5, 15] ?_
   refine AWp.region ?_
   refine L.Y Y.asg ?_
   refine L.Y Y.asg ?_
   refine AList.nil ?_
   simp only [Option.some.injEq, Prod.mk.injEq] at h
   obtain ⟨rfl, rfl⟩ := h
   refine AWp.ret ?_
   exact ⟨.inr rfl, [(4, _), (5, _)], _, ⟨rfl, rfl⟩, IsPart.at [] [] base0 .nil (E.c (E.c .nil))⟩
  ·
   have hb6 := hb
   try simp only [hS, hE, ne_eq] at hb
   first | rw [if_pos hb6] at h | rw [if_neg (Bool.eq_false_iff.1 hb6)] at h | rw [if_pos hb] at h | rw [if_neg hb] at h | (simp only [hb, hT, reduceIte] at h) | skip
   refine AWp.skip ?_
   refine AWp.seq ?_
   refine W.kp [0, 1, 2, 4, 5, 15] ?_
   refine AWp.region ?_
   refine L.S (S.ldN Tryd.underlying30 Y30) ?_
   refine L.Y Y.mv ?_
   replace h := Option.bind_eq_some_iff.1 h
   obtain ⟨t290, hc7, h⟩ := h
   refine L.C (C.callE (l := true) [] Tryd.func83 (impl_Order_choice.ac _ _ _ _ _ hc7) .nil ?_)
   refine L.Y Y.asg ?_
   refine L.Y Y.asg ?_
   refine AList.nil ?_
   simp only [Option.some.injEq, Prod.mk.injEq] at h
   obtain ⟨rfl, rfl⟩ := h
   refine AWp.ret ?_
   exact ⟨.inr rfl, [(4, _), (5, _)], _, ⟨rfl, rfl⟩, IsPart.at [] [] base0 .nil (E.c (E.c .nil))⟩

/-! ### spec_orList: function 124 -/
def spec_orList.l0 : Nat → Int → List Int → Int → Option (List Int)
 | 0, _, _, _ => none
 | k + 1, x0, x3, x4 => if 0 ≤ x4 then (if (shr .i64 x0 x4) > 0 then ((spec_orHas.f x0 x4).bind fun t291 => (if t291 = true then (if x3.length < 17592186044416 then (spec_orList.l0 k x0 (x3 ++ [x4]) (wrap64 (x4 + 1))) else (none)) else (spec_orList.l0 k x0 x3 (wrap64 (x4 + 1))))) else (some x3)) else (none)
def spec_orList.f (k : Nat) (a0 : Int) : Option (List Int) := spec_orList.l0 k a0 ([] : List Int) 0
set_option maxRecDepth 100000 in
set_option maxHeartbeats 20000000 in
theorem spec_orList.ac (k : Nat) (a0 : Int) (r : List Int) (h : spec_orList.f k a0 = some r) :
  ACalls Tryd.prog 124 [.lit (.int .i64 a0)] [] (fun v H' => v = .own 0 r.length ∧ H' = [.sl 3 1 r.length false (ints .i64 r)]) := by
 refine ACalls.ofP [2] Tryd.func124 rfl (by exact Nat.le_of_ble_eq_true rfl) rfl (by decide) ?_
 simp only [Tryd.ntmps124, env0, spec_orList.f] at h ⊢
 refine AWp.seq ?_
 refine AWp.region ?_
 refine L.Y Y.asg ?_
 refine AList.nil ?_
 refine AWp.seq ?_
 refine AWp.region ?_
 refine L.Y Y.asg ?_
 refine AList.nil ?_
 refine AWp.seq ?_
 refine AWp.seq ?_
 refine AWp.region ?_
 refine L.Y Y.asg ?_
 refine AList.nil ?_
 refine AWp.block ?_
 refine AWp.loopI (fun kk e H => kk ≤ k ∧ ∃ (x0 : Int) (x3 : List Int) (x4 : Int), e = [(0, .lit (.int .i64 x0)), (2, .lit (.slice none 0 0)), (3, .own 0 x3.length), (4, .lit (.int .i64 x4))] ∧ H = [.sl 3 1 x3.length false (ints .i64 x3)] ∧ spec_orList.l0 kk x0 x3 x4 = some r) (k := k)
  ⟨_, _, ⟨Nat.le_refl _, _, _, _, rfl, rfl, h⟩, IsPart.at [(3, 1)] [0] base0 (H.c .nil) (E.c (E.c (E.c (E.c .nil))))⟩ ?_
 clear h
 rintro k1 e H ⟨hk2, x0, x3, x4, rfl, rfl, h⟩
 cases k1 with
 | zero => exact absurd h (by simp [spec_orList.l0])
 | succ k1 =>
 simp only [spec_orList.l0] at h
 repeat (first | (rw [iN] at h; obtain ⟨_, h⟩ := h) | (rw [iP] at h; obtain ⟨_, h⟩ := h) | (simp only [bS] at h))
 refine AWp.seq ?_
 refine AWp.seq ?_
 refine AWp.region ?_
 refine L.Y Y.mv ?_
 refine L.Y Y.mv ?_
 refine L.Y Y.bin ?_
 refine L.Y Y.bin ?_
 refine AList.nil ?_
 refine W.cond (fun hb => ?_) (fun hb => ?_)
 ·
  have hb3 := hb
  try simp only [hS, hE, ne_eq] at hb
  first | rw [if_pos hb3] at h | rw [if_neg (Bool.eq_false_iff.1 hb3)] at h | rw [if_pos hb] at h | rw [if_neg hb] at h | (simp only [hb, hT, reduceIte] at h) | skip
  refine AWp.skip ?_
  refine AWp.seq ?_
  refine AWp.block ?_
  refine AWp.seq ?_
  refine AWp.region ?_
  refine L.Y Y.mv ?_
  refine L.Y Y.mv ?_
  replace h := Option.bind_eq_some_iff.1 h
  obtain ⟨t291, hc4, h⟩ := h
  refine L.C (C.callE (l := true) [] Tryd.func67 (spec_orHas.ac _ _ _ hc4) .nil ?_)
  refine AList.nil ?_
  refine W.cond (fun hb => ?_) (fun hb => ?_)
  ·
   have hb5 := hb
   try simp only [hS, hE, ne_eq] at hb
   first | rw [if_pos hb5] at h | rw [if_neg (Bool.eq_false_iff.1 hb5)] at h | rw [if_pos hb] at h | rw [if_neg hb] at h | (simp only [hb, hT, reduceIte] at h) | skip
   repeat (first | (rw [iN] at h; obtain ⟨_, h⟩ := h) | (rw [iP] at h; obtain ⟨_, h⟩ := h) | (simp only [bS] at h))
   refine W.kp [0, 2, 3, 4, 8, 13] ?_
   refine AWp.region ?_
   refine L.Y Y.mv ?_
   refine L.Y Y.mv ?_
   refine L.M (M.bs Tryd.underlying22 Y3) ?_
   refine L.S (S.ap (nn' := false) Tryd.underlying22 Y3) ?_
   refine L.Y Y.asg ?_
   refine AList.nil ?_
   refine W.kp [0, 2, 3, 4, 8, 13] ?_
   refine AWp.region ?_
   refine L.Y Y.mv ?_
   refine L.Y Y.bin ?_
   refine L.Y Y.asg ?_
   refine AList.nil ?_
   exact ⟨k1, by omega, _, _, ⟨by omega, _, _, _, rfl, rfl, h⟩, IsPart.at [] [0] base0 (H.c .nil) (E.c (E.c (E.c (E.c .nil))))⟩
  ·
   have hb5 := hb
   try simp only [hS, hE, ne_eq] at hb
   first | rw [if_pos hb5] at h | rw [if_neg (Bool.eq_false_iff.1 hb5)] at h | rw [if_pos hb] at h | rw [if_neg hb] at h | (simp only [hb, hT, reduceIte] at h) | skip
   refine AWp.skip ?_
   refine W.kp [0, 2, 3, 4, 8, 13] ?_
   refine AWp.region ?_
   refine L.Y Y.mv ?_
   refine L.Y Y.bin ?_
   refine L.Y Y.asg ?_
   refine AList.nil ?_
   exact ⟨k1, by omega, _, _, ⟨by omega, _, _, _, rfl, rfl, h⟩, IsPart.at [] [0] base0 (H.c .nil) (E.c (E.c (E.c (E.c .nil))))⟩
 ·
  have hb3 := hb
  try simp only [hS, hE, ne_eq] at hb
  first | rw [if_pos hb3] at h | rw [if_neg (Bool.eq_false_iff.1 hb3)] at h | rw [if_pos hb] at h | rw [if_neg hb] at h | (simp only [hb, hT, reduceIte] at h) | skip
  refine AWp.exit ?_
  refine AWp.seq ?_
  refine AWp.region ?_
  refine L.Y Y.mv ?_
  refine L.Y Y.asg ?_
  refine AList.nil ?_
  obtain rfl := Option.some.inj h
  refine AWp.ret ?_
  exact ⟨.inr rfl, [(2, _)], _, ⟨rfl, rfl⟩, IsPart.at [] [0] base0 (H.c .nil) (E.c .nil)⟩

/-! ### spec_cfChoice: function 85 -/
def spec_cfChoice.l0 : Nat → Int → Int → List Int → Int → Int → Int → List Int → Option (Int)
 | 0, _, _, _, _, _, _, _ => none
 | k + 1, x1, x5, x9, x10, x11, x296000, x296001 => if x11 < x10 then (if 0 ≤ x11 then (if x11 < (x9.length : Int) then (if 0 ≤ (rd x9 x11) then (if (rd x9 x11) < (x296001.length : Int) then (if (Go.bits .and .i64 (rd x296001 (rd x9 x11)) x1) = 0 then (spec_cfChoice.l0 k x1 (Go.bits .or .i64 x5 (shl .i64 1 (rd x9 x11))) x9 x10 (wrap64 (x11 + 1)) x296000 x296001) else (spec_cfChoice.l0 k x1 x5 x9 x10 (wrap64 (x11 + 1)) x296000 x296001)) else (none)) else (none)) else (none)) else (none)) else (some x5)
def spec_cfChoice.f (k : Nat) (a0_0 : Int) (l0_1 : List Int) (a1 : Int) : Option (Int) := (spec_orList.f k a1).bind fun t296 => (spec_cfChoice.l0 k a1 0 t296 (t296.length : Int) 0 a0_0 l0_1)
set_option maxRecDepth 100000 in
set_option maxHeartbeats 20000000 in
theorem spec_cfChoice.ac (k : Nat) (a0_0 : Int) (l0_1 : List Int) (a1 : Int) (r : Int) (h : spec_cfChoice.f k a0_0 l0_1 a1 = some r) :
  ACalls Tryd.prog 85 [.agg [.lit (.int .i64 a0_0), .row 1 l0_1.length false (ints .i64 l0_1)], .lit (.int .i64 a1)] [] (fun v H' => v = .lit (.int .i64 r) ∧ H' = []) := by
 refine ACalls.ofP [4] Tryd.func85 rfl (by exact Nat.le_of_ble_eq_true rfl) rfl (by decide) ?_
 simp only [Tryd.ntmps85, env0, spec_cfChoice.f] at h ⊢
 refine AWp.seq ?_
 refine AWp.region ?_
 refine L.M M.bx ?_
 refine L.Y Y.asg ?_
 refine AList.nil ?_
 refine AWp.seq ?_
 refine AWp.region ?_
 refine L.Y Y.asg ?_
 refine AList.nil ?_
 refine AWp.seq ?_
 refine AWp.seq ?_
 refine AWp.region ?_
 refine L.Y Y.mv ?_
 replace h := Option.bind_eq_some_iff.1 h
 obtain ⟨t296, hc1, h⟩ := h
 refine L.C (C.callE (l := true) [] Tryd.func124 (spec_orList.ac _ _ _ hc1) .nil ?_)
 refine L.Y (Y.ln Tryd.underlying22) ?_
 refine L.Y Y.mv ?_
 refine AList.nil ?_
 refine AWp.block ?_
 refine AWp.loopI (fun kk e H => kk ≤ k ∧ ∃ (x1 : Int) (x5 : Int) (x9 : List Int) (x10 : Int) (x11 : Int) (x296000 : Int), e = [(1, .lit (.int .i64 x1)), (2, .ptr 0 0), (5, .lit (.int .i64 x5)), (9, .own 1 x9.length), (10, .lit (.int .i64 x10)), (11, .lit (.int .i64 x11))] ∧ H = [.bx 30 [.lit (.int .i64 x296000), .row 1 l0_1.length false (ints .i64 l0_1)], .sl 3 1 x9.length false (ints .i64 x9)] ∧ spec_cfChoice.l0 kk x1 x5 x9 x10 x11 x296000 l0_1 = some r) (k := k)
  ⟨_, _, ⟨Nat.le_refl _, _, _, _, _, _, _, rfl, rfl, h⟩, IsPart.at [] [0, 1] base0 (H.c (H.c .nil)) (E.c (E.c (E.c (E.c (E.c (E.c .nil))))))⟩ ?_
 clear h
 rintro k2 e H ⟨hk3, x1, x5, x9, x10, x11, x296000, rfl, rfl, h⟩
 cases k2 with
 | zero => exact absurd h (by simp [spec_cfChoice.l0])
 | succ k2 =>
 simp only [spec_cfChoice.l0] at h
 refine AWp.seq ?_
 refine AWp.region ?_
 refine L.Y Y.bin ?_
 refine AList.nil ?_
 refine AWp.seq ?_
 refine W.cond (fun hb => ?_) (fun hb => ?_)
 ·
  have hb4 := hb
  try simp only [hS, hE, ne_eq] at hb
  first | rw [if_pos hb4] at h | rw [if_neg (Bool.eq_false_iff.1 hb4)] at h | rw [if_pos hb] at h | rw [if_neg hb] at h | (simp only [hb, hT, reduceIte] at h) | skip
  repeat (first | (rw [iN] at h; obtain ⟨_, h⟩ := h) | (rw [iP] at h; obtain ⟨_, h⟩ := h) | (simp only [bS] at h))
  refine AWp.skip ?_
  refine AWp.seq ?_
  refine AWp.block ?_
  refine AWp.seq ?_
  refine AWp.region ?_
  refine L.Y (Y.ixo Tryd.underlying22 Y3) ?_
  refine L.S (S.ld Tryd.underlying3) ?_
  refine L.Y Y.asg ?_
  refine AList.nil ?_
  refine AWp.seq ?_
  refine AWp.region ?_
  refine L.Y (Y.fa (off := 1) Tryd.underlying30 Y22) ?_
  refine L.S (S.ld Tryd.underlying22) ?_
  refine L.Y Y.mv ?_
  refine L.Y (Y.ixr Tryd.underlying22 Y3) ?_
  refine L.S (S.ld Tryd.underlying3) ?_
  refine L.Y Y.mv ?_
  refine L.Y Y.bin ?_
  refine L.Y Y.bin ?_
  refine AList.nil ?_
  refine W.cond (fun hb => ?_) (fun hb => ?_)
  ·
   have hb5 := hb
   try simp only [hS, hE, ne_eq] at hb
   first | rw [if_pos hb5] at h | rw [if_neg (Bool.eq_false_iff.1 hb5)] at h | rw [if_pos hb] at h | rw [if_neg hb] at h | (simp only [hb, hT, reduceIte] at h) | skip
   refine W.kp [1, 2, 5, 7, 9, 10, 11, 12, 22] ?_
   refine AWp.region ?_
   refine L.Y Y.mv ?_
   refine L.Y Y.mv ?_
   refine L.Y Y.bin ?_
   refine L.Y Y.bin ?_
   refine L.Y Y.asg ?_
   refine AList.nil ?_
   refine W.kp [1, 2, 5, 7, 9, 10, 11, 12, 22] ?_
   refine AWp.region ?_
   refine L.Y Y.bin ?_
   refine L.Y Y.mv ?_
   refine AList.nil ?_
   exact ⟨k2, by omega, _, _, ⟨by omega, _, _, _, _, _, _, rfl, rfl, h⟩, IsPart.at [] [0, 1] base0 (H.c (H.c .nil)) (E.c (E.c (E.c (E.c (E.c (E.c .nil))))))⟩
  ·
   have hb5 := hb
   try simp only [hS, hE, ne_eq] at hb
   first | rw [if_pos hb5] at h | rw [if_neg (Bool.eq_false_iff.1 hb5)] at h | rw [if_pos hb] at h | rw [if_neg hb] at h | (simp only [hb, hT, reduceIte] at h) | skip
   refine AWp.skip ?_
   refine W.kp [1, 2, 5, 7, 9, 10, 11, 12, 22] ?_
   refine AWp.region ?_
   refine L.Y Y.bin ?_
   refine L.Y Y.mv ?_
   refine AList.nil ?_
   exact ⟨k2, by omega, _, _, ⟨by omega, _, _, _, _, _, _, rfl, rfl, h⟩, IsPart.at [] [0, 1] base0 (H.c (H.c .nil)) (E.c (E.c (E.c (E.c (E.c (E.c .nil))))))⟩
 ·
  have hb4 := hb
  try simp only [hS, hE, ne_eq] at hb
  first | rw [if_pos hb4] at h | rw [if_neg (Bool.eq_false_iff.1 hb4)] at h | rw [if_pos hb] at h | rw [if_neg hb] at h | (simp only [hb, hT, reduceIte] at h) | skip
  refine AWp.exit ?_
  refine AWp.seq ?_
  refine AWp.region ?_
  refine L.Y Y.mv ?_
  refine L.Y Y.asg ?_
  refine AList.nil ?_
  obtain rfl := Option.some.inj h
  refine AWp.ret ?_
  exact ⟨.inr rfl, [(4, _)], _, ⟨rfl, rfl⟩, IsPart.at [] [] base0 .nil (E.c .nil)⟩

/-! ### spec_ChoiceOf: function 25 -/
def spec_ChoiceOf.f (k : Nat) (a0_0 : Int) (l0_1 : List Int) (a1 : Int) : Option (Int × Bool) := (spec_orRelation.f k a0_0 l0_1).bind fun t302 => (if t302 = true then (if 0 ≤ a0_0 then ((spec_l1In.f a1 0 (wrap64 ((shl .i64 1 a0_0) - 1))).bind fun t303 => (if t303 = true then ((spec_cfChoice.f k a0_0 l0_1 a1).bind fun t304 => (some (t304, true))) else (some (0, false)))) else (none)) else (some (0, false)))
set_option maxRecDepth 100000 in
set_option maxHeartbeats 20000000 in
theorem spec_ChoiceOf.ac (k : Nat) (a0_0 : Int) (l0_1 : List Int) (a1 : Int) (r1 : Int) (r2 : Bool) (h : spec_ChoiceOf.f k a0_0 l0_1 a1 = some (r1, r2)) :
  ACalls Tryd.prog 25 [.agg [.lit (.int .i64 a0_0), .row 1 l0_1.length false (ints .i64 l0_1)], .lit (.int .i64 a1)] [] (fun v H' => v = .tup [.lit (.int .i64 r1), .lit (.bool r2)] ∧ H' = []) := by
 refine ACalls.ofP [4, 5] Tryd.func25 rfl (by exact Nat.le_of_ble_eq_true rfl) rfl (by decide) ?_
 simp only [Tryd.ntmps25, env0, spec_ChoiceOf.f] at h ⊢
 refine AWp.seq ?_
 refine AWp.region ?_
 refine L.M M.bx ?_
 refine L.Y Y.asg ?_
 refine L.Y Y.asg ?_
 refine AList.nil ?_
 refine AWp.seq ?_
 refine AWp.seq ?_
 refine AWp.region ?_
 refine L.S (S.ldN Tryd.underlying30 Y30) ?_
 replace h := Option.bind_eq_some_iff.1 h
 obtain ⟨t302, hc1, h⟩ := h
 refine L.C (C.callE (l := true) [] Tryd.func84 (spec_orRelation.ac _ _ _ _ hc1) .nil ?_)
 refine L.Y Y.nt ?_
 refine L.Y Y.mv ?_
 refine L.Gc (fun hb => ?_) (fun hb => ?_)
 ·
  have hb2 := hb
  try simp only [hS, hE, ne_eq] at hb
  first | rw [if_pos hb2] at h | rw [if_neg (Bool.eq_false_iff.1 hb2)] at h | rw [if_pos hb] at h | rw [if_neg hb] at h | (simp only [hb, hT, reduceIte] at h) | skip
  refine L.Gn hb2 ?_
  refine L.Gn hb2 ?_
  refine L.Gn hb2 ?_
  refine L.Gn hb2 ?_
  refine L.Gn hb2 ?_
  refine L.Gn hb2 ?_
  refine L.Gn hb2 ?_
  refine L.Y (Y.pk (c := true) hb2) ?_
  refine AList.nil ?_
  refine W.cond (fun hb => ?_) (fun hb => ?_)
  rotate_left
  ·
   first | exact Bool.false_ne_true ((Eq.symm (by assumption)).trans hb) | exact Bool.false_ne_true (hb.symm.trans (by assumption)) | exact DD hb
  have hb3 := hb
  refine AWp.seq ?_
  refine W.kp [0, 1, 2, 4, 5, 17] ?_
  refine AWp.region ?_
  refine L.Y Y.asg ?_
  refine L.Y Y.asg ?_
  refine AList.nil ?_
  simp only [Option.some.injEq, Prod.mk.injEq] at h
  obtain ⟨rfl, rfl⟩ := h
  refine AWp.ret ?_
  exact ⟨.inr rfl, [(4, _), (5, _)], _, ⟨rfl, rfl⟩, IsPart.at [] [] base0 .nil (E.c (E.c .nil))⟩
 ·
  have hb2 := hb
  try simp only [hS, hE, ne_eq] at hb
  first | rw [if_pos hb2] at h | rw [if_neg (Bool.eq_false_iff.1 hb2)] at h | rw [if_pos hb] at h | rw [if_neg hb] at h | (simp only [hb, hT, reduceIte] at h) | skip
  repeat (first | (rw [iN] at h; obtain ⟨_, h⟩ := h) | (rw [iP] at h; obtain ⟨_, h⟩ := h) | (simp only [bS] at h))
  refine L.Gy hb2 Y.mv ?_
  refine L.Gy hb2 (Y.fa (off := 0) Tryd.underlying30 Y3) ?_
  refine L.Gs hb2 (S.ld Tryd.underlying3) ?_
  refine L.Gy hb2 Y.bin ?_
  refine L.Gy hb2 Y.bin ?_
  replace h := Option.bind_eq_some_iff.1 h
  obtain ⟨t303, hc4, h⟩ := h
  refine L.GC hb2 (C.callE (l := true) [] Tryd.func65 (spec_l1In.ac _ _ _ _ hc4) .nil ?_)
  refine L.Gy hb2 Y.nt ?_
  refine L.Y (Y.pk (c := false) hb2) ?_
  refine AList.nil ?_
  refine W.cond (fun hb => ?_) (fun hb => ?_)
  ·
   have hb5 := hb
   try simp only [hS, hE, ne_eq] at hb
   first | rw [if_pos hb5] at h | rw [if_neg (Bool.eq_false_iff.1 hb5)] at h | rw [if_pos hb] at h | rw [if_neg hb] at h | (simp only [hb, hT, reduceIte] at h) | skip
   refine AWp.seq ?_
   refine W.kp [0, 1, 2, 4, 5, 17] ?_
   refine AWp.region ?_
   refine L.Y Y.asg ?_
   refine L.Y Y.asg ?_
   refine AList.nil ?_
   simp only [Option.some.injEq, Prod.mk.injEq] at h
   obtain ⟨rfl, rfl⟩ := h
   refine AWp.ret ?_
   exact ⟨.inr rfl, [(4, _), (5, _)], _, ⟨rfl, rfl⟩, IsPart.at [] [] base0 .nil (E.c (E.c .nil))⟩
  ·
   have hb5 := hb
   try simp only [hS, hE, ne_eq] at hb
   first | rw [if_pos hb5] at h | rw [if_neg (Bool.eq_false_iff.1 hb5)] at h | rw [if_pos hb] at h | rw [if_neg hb] at h | (simp only [hb, hT, reduceIte] at h) | skip
   refine AWp.skip ?_
   refine AWp.seq ?_
   refine W.kp [0, 1, 2, 4, 5, 17] ?_
   refine AWp.region ?_
   refine L.S (S.ldN Tryd.underlying30 Y30) ?_
   refine L.Y Y.mv ?_
   replace h := Option.bind_eq_some_iff.1 h
   obtain ⟨t304, hc6, h⟩ := h
   refine L.C (C.callE (l := true) [] Tryd.func85 (spec_cfChoice.ac _ _ _ _ _ hc6) .nil ?_)
   refine L.Y Y.asg ?_
   refine L.Y Y.asg ?_
   refine AList.nil ?_
   simp only [Option.some.injEq, Prod.mk.injEq] at h
   obtain ⟨rfl, rfl⟩ := h
   refine AWp.ret ?_
   exact ⟨.inr rfl, [(4, _), (5, _)], _, ⟨rfl, rfl⟩, IsPart.at [] [] base0 .nil (E.c (E.c .nil))⟩

/-! ### impl_Order_better: function 73 -/
def impl_Order_better.f (a0_0 : Int) (l0_1 : List Int) (a1 : Int) (a2 : Int) : Option (Bool) := if 0 ≤ a1 then (if a1 < (l0_1.length : Int) then (if 0 ≤ a2 then (some ((Go.bits .and .i64 (shr .i64 (rd l0_1 a1) a2) 1) == 1)) else (none)) else (none)) else (none)
set_option maxRecDepth 100000 in
set_option maxHeartbeats 20000000 in
theorem impl_Order_better.ac (a0_0 : Int) (l0_1 : List Int) (a1 : Int) (a2 : Int) (r : Bool) (h : impl_Order_better.f a0_0 l0_1 a1 a2 = some r) :
  ACalls Tryd.prog 73 [.agg [.lit (.int .i64 a0_0), .row 1 l0_1.length false (ints .i64 l0_1)], .lit (.int .i64 a1), .lit (.int .i64 a2)] [] (fun v H' => v = .lit (.bool r) ∧ H' = []) := by
 refine ACalls.ofP [6] Tryd.func73 rfl (by exact Nat.le_of_ble_eq_true rfl) rfl (by decide) ?_
 simp only [Tryd.ntmps73, env0, impl_Order_better.f] at h ⊢
 repeat (first | (rw [iN] at h; obtain ⟨_, h⟩ := h) | (rw [iP] at h; obtain ⟨_, h⟩ := h) | (simp only [bS] at h))
 refine AWp.seq ?_
 refine AWp.region ?_
 refine L.M M.bx ?_
 refine L.Y Y.asg ?_
 refine AList.nil ?_
 refine AWp.seq ?_
 refine AWp.region ?_
 refine L.Y (Y.fa (off := 1) Tryd.underlying30 Y22) ?_
 refine L.S (S.ld Tryd.underlying22) ?_
 refine L.Y Y.mv ?_
 refine L.Y (Y.ixr Tryd.underlying22 Y3) ?_
 refine L.S (S.ld Tryd.underlying3) ?_
 refine L.Y Y.mv ?_
 refine L.Y Y.bin ?_
 refine L.Y Y.bin ?_
 refine L.Y Y.bin ?_
 refine L.Y Y.asg ?_
 refine AList.nil ?_
 obtain rfl := Option.some.inj h
 refine AWp.ret ?_
 exact ⟨.inr rfl, [(6, _)], _, ⟨rfl, rfl⟩, IsPart.at [] [] base0 .nil (E.c .nil)⟩

/-! ### slices_Clone_int_int: function 133 -/
def slices_Clone_int_int.f (l0 : List Int) : Option (List Int) := if l0.length * 8 ≤ 140737488355328 then some l0 else none
def slices_Clone_int_int.ren : Go.Shelf.Ren := ⟨fun | 15 => 133 | n => n, fun | 3 => 3 | 4 => 4 | 22 => 22 | n => n, fun n => n⟩
theorem slices_Clone_int_int.lays : Go.Proofs.Lays2.n15 Tryd.prog slices_Clone_int_int.ren where
 mixed := by kernel_rfl
 f15 := Tryd.func133.trans (congrArg some (by kernel_rfl))
 t3 := Tryd.underlying3
 a3 := Tryd.isAgg3
 z3 := Tryd.sizeOf3
 v3 := Tryd.zeroValue3
 t4 := Tryd.underlying4
 a4 := Tryd.isAgg4
 z4 := Tryd.sizeOf4
 v4 := Tryd.zeroValue4
 t22 := Tryd.underlying22
 a22 := Tryd.isAgg22
 z22 := Tryd.sizeOf22
 v22 := Tryd.zeroValue22
 i3 := by kernel_rfl
theorem slices_Clone_int_int.row {w : World} {v : Value} {base : Nat} {xs : List Int} (h : w.ownsRow base 3 1 v xs.length (xs.map (Value.int .i64))) : Kd.R (Kd.int .i64) 3 w base (fun _ => True) v xs := by
 refine ⟨fun _ _ => trivial, xs.map (Value.int .i64), h, ⟨by simp [Kd.int, Kd.scalar], fun j p hj => ?_⟩⟩
 show ((xs.map (Value.int .i64)).drop (j * 1)).take 1 = [Value.int .i64 p]
 obtain ⟨hl, rfl⟩ := List.getElem?_eq_some_iff.1 hj
 rw [Nat.mul_one, List.drop_eq_getElem_cons (by simpa using hl)]
 simp
theorem slices_Clone_int_int.calls (A0 : Option Addr) (c0 : Nat) (l0 : List Int) (r : List Int) (w : World) (hr0 : Kd.C (Kd.int .i64) w A0 l0.length l0) (hc0 : l0.length ≤ c0) (h : slices_Clone_int_int.f l0 = some r) :
  Calls Tryd.prog 133 #[.slice A0 l0.length c0] w fun e w' => ∃ v0_ : Value, e = .returned (v0_) ∧ Kd.R (Kd.int .i64) 3 w' w.heap.size (fun _ => True) v0_ r ∧ Below w.heap.size w w' := by
 unfold slices_Clone_int_int.f at h
 by_cases hb : l0.length * 8 ≤ 140737488355328
 ·
  rw [if_pos hb] at h
  injection h with h
  subst h
  obtain ⟨_, _, hcell⟩ := hr0
  cases A0 with
  | none =>
   have h0 : l0 = [] := by
    apply List.eq_nil_of_length_eq_zero
    apply Nat.eq_zero_of_not_pos
    intro hp
    obtain ⟨ad, e, _⟩ := hcell hp
    cases e
   refine (Any.slices_Clone_int_nil slices_Clone_int_int.lays l0.length c0 w).mono ?_
   rintro e w' ⟨rfl, rfl⟩
   refine ⟨_, rfl, ?_, Below.refl _ _⟩
   rw [h0]
   exact Kd.R_nil _ _ _ _ _
  | some ad =>
   by_cases hp : 0 < l0.length
   ·
    obtain ⟨ad', e, hc⟩ := hcell hp
    cases e
    have hcc : ∀ j, j < l0.length → w.cell? (ad.add j) = some (.int .i64 (l0.getD j 0)) := by
     intro j hj
     obtain ⟨c, hlen, hk, hcells⟩ := hc j l0[j] (List.getElem?_eq_getElem hj)
     have hk' : c = [Value.int .i64 l0[j]] := hk
     have t : w.cell? (ad.add (j * 1 + 0)) = some (Value.int .i64 l0[j]) := hcells 0 (Value.int .i64 l0[j]) (by rw [hk']; rfl)
     rw [Nat.mul_one, Nat.add_zero] at t
     rw [List.getD_eq_getElem?_getD, List.getElem?_eq_getElem hj]
     exact t
    obtain ⟨b, off, spot⟩ := ad
    have hspot : spot = none := by
     have h1 : w.cell? ⟨b, off, spot⟩ = some (.int .i64 (l0.getD 0 0)) := hcc 0 hp
     cases spot with
     | none => rfl
     | some s =>
      simp only [World.cell?] at h1
      split at h1
      ·
       simp at h1
      ·
       cases h1
    subst hspot
    have hc3 : ∀ j, j < l0.length → w.cell? ⟨b, off + j, none⟩ = some (.int .i64 (l0.getD j 0)) := by
     intro j hj
     have := hcc j hj
     rw [Addr.add_lit] at this
     exact this
    refine (Any.slices_Clone_int slices_Clone_int_int.lays b off l0.length c0 l0 w (Nat.le_refl _) hb hc3).mono ?_
    rintro e w' ⟨v', rfl, ho, _, hb'⟩
    refine ⟨v', rfl, slices_Clone_int_int.row ?_, hb'⟩
    have : l0.take l0.length = l0 := List.take_length
    rw [this] at ho
    exact ho
   ·
    have h0 : l0 = [] := List.eq_nil_of_length_eq_zero (by omega)
    subst h0
    refine (Any.slices_Clone_int_zero slices_Clone_int_int.lays ad c0 w).mono ?_
    rintro e w' ⟨v', rfl, ho, _, hb'⟩
    exact ⟨v', rfl, slices_Clone_int_int.row ho, hb'⟩
 ·
  rw [if_neg hb] at h
  cases h
theorem slices_Clone_int_int.ac (l0 : List Int) (r : List Int) (h : slices_Clone_int_int.f l0 = some r) : ACalls Tryd.prog 133 [.row 1 l0.length false (ints .i64 l0)] [] (fun v H' => v = .own 0 r.length ∧ H' = [.sl 3 1 r.length false (ints .i64 r)]) := by
 unfold slices_Clone_int_int.f at h
 by_cases hb : l0.length * 8 ≤ 140737488355328
 ·
  rw [if_pos hb] at h
  injection h with h
  subst h
  intro R F A w vs hi hvs
  match vs, hvs with
  | [], hvs => simp [VRs] at hvs
  | [c], hvs =>
   simp only [VRs, and_true] at hvs
   rcases VR.ints_cells hvs with ⟨rfl, h0⟩ | ⟨a, cap, rfl, hc, hcell⟩
   ·
    subst h0
    refine (Any.slices_Clone_int_nil slices_Clone_int_int.lays 0 0 w).mono ?_
    rintro e w' ⟨rfl, rfl⟩
    exact CallPost.fresh (vs := []) hi rfl (World.ownsRow_nil _ _ _ _) (Below.refl _ _) (fun _ _ _ _ => by simp [VRs, ints])
   ·
    by_cases hp : 0 < l0.length
    ·
     obtain ⟨b, off, rfl, _, hcc⟩ := hcell hp
     refine (Any.slices_Clone_int slices_Clone_int_int.lays b off l0.length cap l0 w (Nat.le_refl _) hb hcc).mono ?_
     rintro e w' ⟨v', rfl, ho, _, hb'⟩
     have ht : l0.take l0.length = l0 := List.take_length
     rw [ht] at ho
     exact CallPost.fresh hi rfl ho hb' (fun _ _ _ _ => VRs_ints .i64 l0)
    ·
     have h0 : l0 = [] := List.eq_nil_of_length_eq_zero (by omega)
     subst h0
     refine (Any.slices_Clone_int_zero slices_Clone_int_int.lays a cap w).mono ?_
     rintro e w' ⟨v', rfl, ho, _, hb'⟩
     exact CallPost.fresh hi rfl ho hb' (fun _ _ _ _ => by simp [VRs, ints])
  | _ :: _ :: _, hvs => simp [VRs] at hvs
 ·
  rw [if_neg hb] at h
  cases h

end Go.Proofs.YtpippjgphndjmaaDoor.PFnChoicesOfOrders
