-- Written by a program of this session's (wip/myprint2): the functions by the kit's print, the walks by awgen.py. Lean checks it.
import Derived.Test.YtdaneldckdjjoaaDoorPFnExactNearestOfx0
import Derived.Test.YtdaneldckdjjoaaDoorPFnExactNearestOfx1
import Derived.Test.YtdaneldckdjjoaaDoorPFnExactNearestOfx2
import Derived.Test.YtdaneldckdjjoaaDoorPFnExactNearestOfx3
namespace Go.Proofs.YtdaneldckdjjoaaDoor.PFnExactNearestOf
open Go.RowKit Go.Proofs.YtdaneldckdjjoaaDoorW.PrintWords Go.Proofs.YtdaneldckdjjoaaDoorW.PrintLast Go.Proofs.YtdaneldckdjjoaaDoorW.PrintMore Go.Proofs.YtdaneldckdjjoaaDoorM Go.Proofs.YtdaneldckdjjoaaDoorA Go.Proofs.YtdaneldckdjjoaaDoorT
attribute [local go_sem] max2_int min2_int max_two min_two max_three min_three max_four min_four   -- for this text's walks alone
set_option linter.unusedVariables false
set_option linter.unusedSimpArgs false

/-! ### spec_cfKind: function 28 -/
def spec_cfKind.f (k : Nat) (a0_0 : Int) (l0_1 : List Int) (a1 : Int) : Option (Bool) := if a1 = 0 then ((spec_weGood.f k a0_0 l0_1).bind fun t203 => (some t203)) else (if a1 = 1 then ((spec_seGood.f k a0_0 l0_1).bind fun t204 => (some t204)) else (if a1 = 2 then ((spec_orGood.f k a0_0 l0_1).bind fun t205 => (if t205 = true then ((spec_seTwoTwo.f k a0_0 l0_1).bind fun t206 => (some (!t206))) else (some false))) else ((spec_orGood.f k a0_0 l0_1).bind fun t207 => (some t207))))
set_option maxRecDepth 100000 in
set_option maxHeartbeats 20000000 in
theorem spec_cfKind.ac (k : Nat) (a0_0 : Int) (l0_1 : List Int) (a1 : Int) (r : Bool) (h : spec_cfKind.f k a0_0 l0_1 a1 = some r) :
  ACalls Tryd.prog 28 [.agg [.lit (.int .i64 a0_0), .row 1 l0_1.length false (ints .i64 l0_1)], .lit (.int .i64 a1)] [] (fun v H' => v = .lit (.bool r) ∧ H' = []) := by
 refine ACalls.ofP [4] Tryd.func28 rfl (by exact Nat.le_of_ble_eq_true rfl) rfl (by decide) ?_
 simp only [Tryd.ntmps28, env0, spec_cfKind.f] at h ⊢
 refine AWp.seq ?_
 refine AWp.region ?_
 refine L.M M.bx ?_
 refine L.Y Y.asg ?_
 refine AList.nil ?_
 refine AWp.seq ?_
 refine AWp.seq ?_
 refine AWp.region ?_
 refine L.Y Y.mv ?_
 refine AList.nil ?_
 refine AWp.block ?_
 refine AWp.seq ?_
 refine AWp.region ?_
 refine L.Y Y.bin ?_
 refine L.Y Y.asg ?_
 refine AList.nil ?_
 refine W.cond (fun hb => ?_) (fun hb => ?_)
 ·
  have hb1 := hb
  try simp only [hS, hE, ne_eq] at hb
  first | rw [if_pos hb1] at h | rw [if_neg (Bool.eq_false_iff.1 hb1)] at h | rw [if_pos hb] at h | rw [if_neg hb] at h | (simp only [hb, hT, reduceIte] at h) | skip
  refine AWp.seq ?_
  refine AWp.region ?_
  refine L.S (S.ldN Tryd.underlying26 Y26) ?_
  replace h := Option.bind_eq_some_iff.1 h
  obtain ⟨t203, hc2, h⟩ := h
  refine L.C (C.callE (l := true) [] Tryd.func37 (spec_weGood.ac _ _ _ _ hc2) .nil ?_)
  refine L.Y Y.asg ?_
  refine AList.nil ?_
  obtain rfl := Option.some.inj h
  refine AWp.ret ?_
  exact ⟨.inr rfl, [(4, _)], _, ⟨rfl, rfl⟩, IsPart.at [] [] base0 .nil (E.c .nil)⟩
 ·
  have hb1 := hb
  try simp only [hS, hE, ne_eq] at hb
  first | rw [if_pos hb1] at h | rw [if_neg (Bool.eq_false_iff.1 hb1)] at h | rw [if_pos hb] at h | rw [if_neg hb] at h | (simp only [hb, hT, reduceIte] at h) | skip
  refine AWp.seq ?_
  refine AWp.region ?_
  refine L.Y Y.bin ?_
  refine L.Y Y.asg ?_
  refine AList.nil ?_
  refine W.cond (fun hb => ?_) (fun hb => ?_)
  ·
   have hb3 := hb
   try simp only [hS, hE, ne_eq] at hb
   first | rw [if_pos hb3] at h | rw [if_neg (Bool.eq_false_iff.1 hb3)] at h | rw [if_pos hb] at h | rw [if_neg hb] at h | (simp only [hb, hT, reduceIte] at h) | skip
   refine AWp.seq ?_
   refine AWp.region ?_
   refine L.S (S.ldN Tryd.underlying26 Y26) ?_
   replace h := Option.bind_eq_some_iff.1 h
   obtain ⟨t204, hc4, h⟩ := h
   refine L.C (C.callE (l := true) [] Tryd.func38 (spec_seGood.ac _ _ _ _ hc4) .nil ?_)
   refine L.Y Y.asg ?_
   refine AList.nil ?_
   obtain rfl := Option.some.inj h
   refine AWp.ret ?_
   exact ⟨.inr rfl, [(4, _)], _, ⟨rfl, rfl⟩, IsPart.at [] [] base0 .nil (E.c .nil)⟩
  ·
   have hb3 := hb
   try simp only [hS, hE, ne_eq] at hb
   first | rw [if_pos hb3] at h | rw [if_neg (Bool.eq_false_iff.1 hb3)] at h | rw [if_pos hb] at h | rw [if_neg hb] at h | (simp only [hb, hT, reduceIte] at h) | skip
   refine AWp.seq ?_
   refine AWp.region ?_
   refine L.Y Y.bin ?_
   refine L.Y Y.asg ?_
   refine AList.nil ?_
   refine W.cond (fun hb => ?_) (fun hb => ?_)
   ·
    have hb5 := hb
    try simp only [hS, hE, ne_eq] at hb
    first | rw [if_pos hb5] at h | rw [if_neg (Bool.eq_false_iff.1 hb5)] at h | rw [if_pos hb] at h | rw [if_neg hb] at h | (simp only [hb, hT, reduceIte] at h) | skip
    refine AWp.seq ?_
    refine AWp.region ?_
    refine L.S (S.ldN Tryd.underlying26 Y26) ?_
    replace h := Option.bind_eq_some_iff.1 h
    obtain ⟨t205, hc6, h⟩ := h
    refine L.C (C.callE (l := true) [] Tryd.func39 (spec_orGood.ac _ _ _ _ hc6) .nil ?_)
    refine L.Y Y.mv ?_
    refine L.Gc (fun hb => ?_) (fun hb => ?_)
    ·
     have hb7 := hb
     try simp only [hS, hE, ne_eq] at hb
     first | rw [if_pos hb7] at h | rw [if_neg (Bool.eq_false_iff.1 hb7)] at h | rw [if_pos hb] at h | rw [if_neg hb] at h | (simp only [hb, hT, reduceIte] at h) | skip
     refine L.Gs hb7 (S.ldN Tryd.underlying26 Y26) ?_
     replace h := Option.bind_eq_some_iff.1 h
     obtain ⟨t206, hc8, h⟩ := h
     refine L.GC hb7 (C.callE (l := true) [] Tryd.func40 (spec_seTwoTwo.ac _ _ _ _ hc8) .nil ?_)
     refine L.Gy hb7 Y.nt ?_
     refine L.Y (Y.pk (c := true) hb7) ?_
     refine L.Y Y.asg ?_
     refine AList.nil ?_
     obtain rfl := Option.some.inj h
     refine AWp.ret ?_
     exact ⟨.inr rfl, [(4, _)], _, ⟨rfl, rfl⟩, IsPart.at [] [] base0 .nil (E.c .nil)⟩
    ·
     have hb7 := hb
     try simp only [hS, hE, ne_eq] at hb
     first | rw [if_pos hb7] at h | rw [if_neg (Bool.eq_false_iff.1 hb7)] at h | rw [if_pos hb] at h | rw [if_neg hb] at h | (simp only [hb, hT, reduceIte] at h) | skip
     refine L.Gn hb7 ?_
     refine L.Gn hb7 ?_
     refine L.Gn hb7 ?_
     refine L.Y (Y.pk (c := false) hb7) ?_
     refine L.Y Y.asg ?_
     refine AList.nil ?_
     obtain rfl := Option.some.inj h
     refine AWp.ret ?_
     exact ⟨.inr rfl, [(4, _)], _, ⟨rfl, rfl⟩, IsPart.at [] [] base0 .nil (E.c .nil)⟩
   ·
    have hb5 := hb
    try simp only [hS, hE, ne_eq] at hb
    first | rw [if_pos hb5] at h | rw [if_neg (Bool.eq_false_iff.1 hb5)] at h | rw [if_pos hb] at h | rw [if_neg hb] at h | (simp only [hb, hT, reduceIte] at h) | skip
    refine AWp.skip ?_
    refine AWp.seq ?_
    refine AWp.region ?_
    refine L.S (S.ldN Tryd.underlying26 Y26) ?_
    replace h := Option.bind_eq_some_iff.1 h
    obtain ⟨t207, hc9, h⟩ := h
    refine L.C (C.callE (l := true) [] Tryd.func39 (spec_orGood.ac _ _ _ _ hc9) .nil ?_)
    refine L.Y Y.asg ?_
    refine AList.nil ?_
    obtain rfl := Option.some.inj h
    refine AWp.ret ?_
    exact ⟨.inr rfl, [(4, _)], _, ⟨rfl, rfl⟩, IsPart.at [] [] base0 .nil (E.c .nil)⟩

/-! ### spec_cfOrders: function 15 -/
mutual
def spec_cfOrders.l0 : Nat → Int → List Int → Int → List (S26) → Int → Option ((List (S26)))
 | 0, _, _, _, _, _ => none
 | k + 1, x0, x1, x2, x8, x9 => if 0 ≤ x0 then (if x9 < (shl .i64 1 x0) then ((spec_orHas.f x9 (x1.length : Int)).bind fun t216 => (if t216 = true then (spec_cfOrders.l0 k x0 x1 x2 x8 (wrap64 (x9 + 1))) else ((spec_l1Own.f x1).bind fun t217 => (if t217.length < 17592186044416 then ((spec_cfOrders.f k x0 (t217 ++ [x9]) x2).bind fun t223 => (if x8.length + t223.length < 4398046511104 then (spec_cfOrders.l0 k x0 x1 x2 (x8 ++ t223) (wrap64 (x9 + 1))) else (none))) else (none))))) else (some x8)) else (none)
def spec_cfOrders.f : Nat → Int → List Int → Int → Option ((List (S26)))
 | 0, _, _, _ => none
 | k + 1, a0, l1, a2 => if (l1.length : Int) = a0 then ((spec_l1Own.f l1).bind fun t208 => ((spec_cfKind.f k a0 t208 a2).bind fun t212 => (if t212 = true then (some (([(⟨a0, t208⟩ : S26)] : List (S26)))) else (some ([] : List (S26)))))) else (spec_cfOrders.l0 k a0 l1 a2 ([] : List (S26)) 0)
end
set_option maxRecDepth 100000 in
set_option maxHeartbeats 20000000 in
theorem spec_cfOrders.ac : ∀ (k : Nat) (a0 : Int) (l1 : List Int) (a2 : Int) (r : List (S26)) (_ : spec_cfOrders.f k a0 l1 a2 = some r),
  ACalls Tryd.prog 15 [.lit (.int .i64 a0), .row 1 l1.length false (ints .i64 l1), .lit (.int .i64 a2)] [] (fun v H' => v = .own 0 r.length ∧ H' = [.sl 26 2 r.length false (Enc.cells r)]) := by
 intro k
 induction k using Nat.strongRecOn with
 | _ k ih =>
 intro a0 l1 a2 r h
 cases k with
 | zero => exact absurd h (by simp [spec_cfOrders.f])
 | succ k =>
 refine ACalls.ofP [6] Tryd.func15 rfl (by exact Nat.le_of_ble_eq_true rfl) rfl (by decide) ?_
 simp only [Tryd.ntmps15, env0, spec_cfOrders.f] at h ⊢
 refine AWp.seq ?_
 refine AWp.region ?_
 refine L.Y Y.asg ?_
 refine AList.nil ?_
 refine AWp.seq ?_
 refine AWp.seq ?_
 refine AWp.region ?_
 refine L.Y Y.mv ?_
 refine L.Y (Y.ln Tryd.underlying22) ?_
 refine L.Y Y.mv ?_
 refine L.Y Y.bin ?_
 refine AList.nil ?_
 refine W.cond (fun hb => ?_) (fun hb => ?_)
 ·
  have hb1 := hb
  try simp only [hS, hE, ne_eq] at hb
  first | rw [if_pos hb1] at h | rw [if_neg (Bool.eq_false_iff.1 hb1)] at h | rw [if_pos hb] at h | rw [if_neg hb] at h | (simp only [hb, hT, reduceIte] at h) | skip
  refine AWp.seq ?_
  refine AWp.region ?_
  refine L.Y Y.mv ?_
  refine L.Y Y.mv ?_
  replace h := Option.bind_eq_some_iff.1 h
  obtain ⟨t208, hc2, h⟩ := h
  refine L.C (C.callE (l := true) [] Tryd.func27 (spec_l1Own.ac _ _ hc2) .nil ?_)
  refine L.Y (Y.bd Tryd.underlying26 Y26 P26) ?_
  refine L.M (M.al Y26) ?_
  refine L.S (S.stb Y26) ?_
  refine AList.nil ?_
  refine AWp.seq ?_
  refine AWp.seq ?_
  refine W.kp [0, 1, 2, 6, 7, 13] ?_
  refine AWp.region ?_
  refine L.S (S.ldN Tryd.underlying26 Y26) ?_
  refine L.Y Y.mv ?_
  replace h := Option.bind_eq_some_iff.1 h
  obtain ⟨t212, hc3, h⟩ := h
  refine L.C (C.callE (l := true) [] Tryd.func28 (spec_cfKind.ac _ _ _ _ _ hc3) .nil ?_)
  refine AList.nil ?_
  refine W.cond (fun hb => ?_) (fun hb => ?_)
  ·
   have hb4 := hb
   try simp only [hS, hE, ne_eq] at hb
   first | rw [if_pos hb4] at h | rw [if_neg (Bool.eq_false_iff.1 hb4)] at h | rw [if_pos hb] at h | rw [if_neg hb] at h | (simp only [hb, hT, reduceIte] at h) | skip
   repeat (first | (rw [iN] at h; obtain ⟨_, h⟩ := h) | (rw [iP] at h; obtain ⟨_, h⟩ := h) | (simp only [bS] at h))
   refine AWp.seq ?_
   refine AWp.region ?_
   refine L.S (S.ldN Tryd.underlying26 Y26) ?_
   refine L.fz 0 ?_
   refine L.M (M.bsT ([(⟨_, _⟩ : S26)] : List (S26)) Tryd.underlying36 Y26) ?_
   refine L.Y Y.asg ?_
   refine AList.nil ?_
   obtain rfl := Option.some.inj h
   refine AWp.ret ?_
   exact ⟨.inr rfl, [(6, _)], _, ⟨rfl, rfl⟩, IsPart.at [] [2] base0 (H.c .nil) (E.c .nil)⟩
  ·
   have hb4 := hb
   try simp only [hS, hE, ne_eq] at hb
   first | rw [if_pos hb4] at h | rw [if_neg (Bool.eq_false_iff.1 hb4)] at h | rw [if_pos hb] at h | rw [if_neg hb] at h | (simp only [hb, hT, reduceIte] at h) | skip
   refine AWp.skip ?_
   refine AWp.seq ?_
   refine AWp.region ?_
   refine L.Y Y.asg ?_
   refine AList.nil ?_
   obtain rfl := Option.some.inj h
   refine AWp.ret ?_
   exact ⟨.inr rfl, [(6, _)], _, ⟨rfl, rfl⟩, IsPart.at [(26, 2)] [2] base0 (H.c .nil) (E.c .nil)⟩
 ·
  have hb1 := hb
  try simp only [hS, hE, ne_eq] at hb
  first | rw [if_pos hb1] at h | rw [if_neg (Bool.eq_false_iff.1 hb1)] at h | rw [if_pos hb] at h | rw [if_neg hb] at h | (simp only [hb, hT, reduceIte] at h) | skip
  refine AWp.skip ?_
  refine AWp.seq ?_
  refine AWp.region ?_
  refine L.Y Y.asg ?_
  refine AList.nil ?_
  refine AWp.seq ?_
  refine AWp.seq ?_
  refine AWp.region ?_
  refine L.Y Y.asg ?_
  refine AList.nil ?_
  refine AWp.block ?_
  refine AWp.loopI (fun kk e H => kk ≤ k ∧ ∃ (x0 : Int) (x2 : Int) (x8 : List (S26)) (x9 : Int), e = [(0, .lit (.int .i64 x0)), (1, .row 1 l1.length false (ints .i64 l1)), (2, .lit (.int .i64 x2)), (6, .lit (.slice none 0 0)), (8, .own 0 x8.length), (9, .lit (.int .i64 x9))] ∧ H = [.sl 26 2 x8.length false (Enc.cells x8)] ∧ spec_cfOrders.l0 kk x0 l1 x2 x8 x9 = some r) (k := k)
   ⟨_, _, ⟨Nat.le_refl _, _, _, _, _, rfl, rfl, h⟩, IsPart.at [(26, 2)] [0] base0 (H.c .nil) (E.c (E.c (E.c (E.c (E.c (E.c .nil))))))⟩ ?_
  clear h
  rintro k5 e H ⟨hk6, x0, x2, x8, x9, rfl, rfl, h⟩
  cases k5 with
  | zero => exact absurd h (by simp [spec_cfOrders.l0])
  | succ k5 =>
  simp only [spec_cfOrders.l0] at h
  repeat (first | (rw [iN] at h; obtain ⟨_, h⟩ := h) | (rw [iP] at h; obtain ⟨_, h⟩ := h) | (simp only [bS] at h))
  refine AWp.seq ?_
  refine AWp.seq ?_
  refine AWp.region ?_
  refine L.Y Y.mv ?_
  refine L.Y Y.mv ?_
  refine L.Y Y.bin ?_
  refine L.Y Y.bin ?_
  refine AList.nil ?_
  refine W.cond (fun hb => ?_) (fun hb => ?_)
  ·
   have hb7 := hb
   try simp only [hS, hE, ne_eq] at hb
   first | rw [if_pos hb7] at h | rw [if_neg (Bool.eq_false_iff.1 hb7)] at h | rw [if_pos hb] at h | rw [if_neg hb] at h | (simp only [hb, hT, reduceIte] at h) | skip
   refine AWp.skip ?_
   refine AWp.seq ?_
   refine AWp.block ?_
   refine AWp.seq ?_
   refine AWp.region ?_
   refine L.Y Y.mv ?_
   refine L.Y Y.mv ?_
   refine L.Y (Y.ln Tryd.underlying22) ?_
   replace h := Option.bind_eq_some_iff.1 h
   obtain ⟨t216, hc8, h⟩ := h
   refine L.C (C.callE (l := true) [] Tryd.func29 (spec_orHas.ac _ _ _ hc8) .nil ?_)
   refine L.Y Y.nt ?_
   refine AList.nil ?_
   refine W.cond (fun hb => ?_) (fun hb => ?_)
   ·
    have hb9 := hb
    try simp only [hS, hE, ne_eq] at hb
    first | rw [if_pos hb9] at h | rw [if_neg (Bool.eq_false_iff.1 hb9)] at h | rw [if_pos hb] at h | rw [if_neg hb] at h | (simp only [hb, hT, reduceIte] at h) | skip
    refine W.kp [0, 1, 2, 6, 8, 9, 26, 33] ?_
    refine AWp.region ?_
    refine L.Y Y.mv ?_
    refine L.Y Y.mv ?_
    refine L.Y Y.mv ?_
    replace h := Option.bind_eq_some_iff.1 h
    obtain ⟨t217, hc10, h⟩ := h
    repeat (first | (rw [iN] at h; obtain ⟨_, h⟩ := h) | (rw [iP] at h; obtain ⟨_, h⟩ := h) | (simp only [bS] at h))
    refine L.C (C.callE (l := true) [] Tryd.func27 (spec_l1Own.ac _ _ hc10) .nil ?_)
    refine L.Y Y.mv ?_
    refine L.M (M.bs Tryd.underlying22 Y3) ?_
    refine L.S (S.ap (nn' := false) Tryd.underlying22 Y3) ?_
    refine L.Y Y.mv ?_
    replace h := Option.bind_eq_some_iff.1 h
    obtain ⟨t223, hc11, h⟩ := h
    repeat (first | (rw [iN] at h; obtain ⟨_, h⟩ := h) | (rw [iP] at h; obtain ⟨_, h⟩ := h) | (simp only [bS] at h))
    refine L.C ?_
    refine C.frz 1 ?_
    refine C.callE (l := false) [] Tryd.func15 (ih k5 (by omega) _ _ _ _ hc11) .nil ?_
    refine L.S (S.ap (nn' := false) Tryd.underlying36 Y26) ?_
    refine L.Y Y.asg ?_
    refine AList.nil ?_
    refine W.kp [0, 1, 2, 6, 8, 9, 26, 33] ?_
    refine AWp.region ?_
    refine L.Y Y.mv ?_
    refine L.Y Y.bin ?_
    refine L.Y Y.asg ?_
    refine AList.nil ?_
    exact ⟨k5, by omega, _, _, ⟨by omega, _, _, _, _, rfl, rfl, h⟩, IsPart.at [] [0] base0 (H.c .nil) (E.c (E.c (E.c (E.c (E.c (E.c .nil))))))⟩
   ·
    have hb9 := hb
    try simp only [hS, hE, ne_eq] at hb
    first | rw [if_pos hb9] at h | rw [if_neg (Bool.eq_false_iff.1 hb9)] at h | rw [if_pos hb] at h | rw [if_neg hb] at h | (simp only [hb, hT, reduceIte] at h) | skip
    refine AWp.skip ?_
    refine W.kp [0, 1, 2, 6, 8, 9, 26, 33] ?_
    refine AWp.region ?_
    refine L.Y Y.mv ?_
    refine L.Y Y.bin ?_
    refine L.Y Y.asg ?_
    refine AList.nil ?_
    exact ⟨k5, by omega, _, _, ⟨by omega, _, _, _, _, rfl, rfl, h⟩, IsPart.at [] [0] base0 (H.c .nil) (E.c (E.c (E.c (E.c (E.c (E.c .nil))))))⟩
  ·
   have hb7 := hb
   try simp only [hS, hE, ne_eq] at hb
   first | rw [if_pos hb7] at h | rw [if_neg (Bool.eq_false_iff.1 hb7)] at h | rw [if_pos hb] at h | rw [if_neg hb] at h | (simp only [hb, hT, reduceIte] at h) | skip
   refine AWp.exit ?_
   refine AWp.seq ?_
   refine AWp.region ?_
   refine L.Y Y.mv ?_
   refine L.Y Y.asg ?_
   refine AList.nil ?_
   obtain rfl := Option.some.inj h
   refine AWp.ret ?_
   exact ⟨.inr rfl, [(6, _)], _, ⟨rfl, rfl⟩, IsPart.at [] [0] base0 (H.c .nil) (E.c .nil)⟩

/-! ### spec_seMany: function 30 -/
def spec_seMany.f (k : Nat) (a0 : Int) : Option (Int) := (spec_orList.f k a0).bind fun t229 => (some (t229.length : Int))
set_option maxRecDepth 100000 in
set_option maxHeartbeats 20000000 in
theorem spec_seMany.ac (k : Nat) (a0 : Int) (r : Int) (h : spec_seMany.f k a0 = some r) :
  ACalls Tryd.prog 30 [.lit (.int .i64 a0)] [] (fun v H' => v = .lit (.int .i64 r) ∧ H' = []) := by
 refine ACalls.ofP [2] Tryd.func30 rfl (by exact Nat.le_of_ble_eq_true rfl) rfl (by decide) ?_
 simp only [Tryd.ntmps30, env0, spec_seMany.f] at h ⊢
 refine AWp.seq ?_
 refine AWp.region ?_
 refine L.Y Y.asg ?_
 refine AList.nil ?_
 refine AWp.seq ?_
 refine AWp.region ?_
 refine L.Y Y.mv ?_
 replace h := Option.bind_eq_some_iff.1 h
 obtain ⟨t229, hc1, h⟩ := h
 refine L.C (C.callE (l := true) [] Tryd.func41 (spec_orList.ac _ _ _ hc1) .nil ?_)
 refine L.Y (Y.ln Tryd.underlying22) ?_
 refine L.Y Y.asg ?_
 refine AList.nil ?_
 obtain rfl := Option.some.inj h
 refine AWp.ret ?_
 exact ⟨.inr rfl, [(2, _)], _, ⟨rfl, rfl⟩, IsPart.at [] [] base0 .nil (E.c .nil)⟩

/-! ### spec_cfApart: function 16 -/
def spec_cfApart.l0 : Nat → Int → List Int → Int → Int → Int → List Int → Option (Int)
 | 0, _, _, _, _, _, _ => none
 | k + 1, x5, x9, x10, x11, x234000, x234001 => if x11 < x10 then (if 0 ≤ x11 then (if x11 < (x9.length : Int) then (if x11 < (x234001.length : Int) then ((spec_seMany.f k (Go.bits .xor .i64 (rd x9 x11) (rd x234001 x11))).bind fun t236 => (spec_cfApart.l0 k (wrap64 (x5 + t236)) x9 x10 (wrap64 (x11 + 1)) x234000 x234001)) else (none)) else (none)) else (none)) else (some x5)
def spec_cfApart.f (k : Nat) (a0_0 : Int) (l0_1 : List Int) (a1_0 : Int) (l1_1 : List Int) : Option (Int) := spec_cfApart.l0 k 0 l0_1 (l0_1.length : Int) 0 a1_0 l1_1
set_option maxRecDepth 100000 in
set_option maxHeartbeats 20000000 in
theorem spec_cfApart.ac (k : Nat) (a0_0 : Int) (l0_1 : List Int) (a1_0 : Int) (l1_1 : List Int) (r : Int) (h : spec_cfApart.f k a0_0 l0_1 a1_0 l1_1 = some r) :
  ACalls Tryd.prog 16 [.agg [.lit (.int .i64 a0_0), .row 1 l0_1.length false (ints .i64 l0_1)], .agg [.lit (.int .i64 a1_0), .row 1 l1_1.length false (ints .i64 l1_1)]] [] (fun v H' => v = .lit (.int .i64 r) ∧ H' = []) := by
 refine ACalls.ofP [4] Tryd.func16 rfl (by exact Nat.le_of_ble_eq_true rfl) rfl (by decide) ?_
 simp only [Tryd.ntmps16, env0, spec_cfApart.f] at h ⊢
 refine AWp.seq ?_
 refine AWp.region ?_
 refine L.M M.bx ?_
 refine L.M M.bx ?_
 refine L.Y Y.asg ?_
 refine AList.nil ?_
 refine AWp.seq ?_
 refine AWp.region ?_
 refine L.Y Y.asg ?_
 refine AList.nil ?_
 refine AWp.seq ?_
 refine AWp.seq ?_
 refine AWp.region ?_
 refine L.Y (Y.fa (off := 1) Tryd.underlying26 Y22) ?_
 refine L.S (S.ld Tryd.underlying22) ?_
 refine L.Y (Y.ln Tryd.underlying22) ?_
 refine L.Y Y.mv ?_
 refine AList.nil ?_
 refine AWp.block ?_
 refine AWp.loopI (fun kk e H => kk ≤ k ∧ ∃ (x5 : Int) (x10 : Int) (x11 : Int) (x233000 : Int) (x234000 : Int), e = [(2, .ptr 0 0), (3, .ptr 1 0), (5, .lit (.int .i64 x5)), (9, .row 1 l0_1.length false (ints .i64 l0_1)), (10, .lit (.int .i64 x10)), (11, .lit (.int .i64 x11))] ∧ H = [.bx 26 [.lit (.int .i64 x233000), .row 1 l0_1.length false (ints .i64 l0_1)], .bx 26 [.lit (.int .i64 x234000), .row 1 l1_1.length false (ints .i64 l1_1)]] ∧ spec_cfApart.l0 kk x5 l0_1 x10 x11 x234000 l1_1 = some r) (k := k)
  ⟨_, _, ⟨Nat.le_refl _, _, _, _, _, _, rfl, rfl, h⟩, IsPart.at [] [0, 1] base0 (H.c (H.c .nil)) (E.c (E.c (E.c (E.c (E.c (E.c .nil))))))⟩ ?_
 clear h
 rintro k1 e H ⟨hk2, x5, x10, x11, x233000, x234000, rfl, rfl, h⟩
 cases k1 with
 | zero => exact absurd h (by simp [spec_cfApart.l0])
 | succ k1 =>
 simp only [spec_cfApart.l0] at h
 refine AWp.seq ?_
 refine AWp.region ?_
 refine L.Y Y.bin ?_
 refine AList.nil ?_
 refine AWp.seq ?_
 refine W.cond (fun hb => ?_) (fun hb => ?_)
 ·
  have hb3 := hb
  try simp only [hS, hE, ne_eq] at hb
  first | rw [if_pos hb3] at h | rw [if_neg (Bool.eq_false_iff.1 hb3)] at h | rw [if_pos hb] at h | rw [if_neg hb] at h | (simp only [hb, hT, reduceIte] at h) | skip
  repeat (first | (rw [iN] at h; obtain ⟨_, h⟩ := h) | (rw [iP] at h; obtain ⟨_, h⟩ := h) | (simp only [bS] at h))
  refine AWp.skip ?_
  refine AWp.seq ?_
  refine AWp.block ?_
  refine AWp.seq ?_
  refine AWp.region ?_
  refine L.Y Y.mv ?_
  refine L.Y (Y.ixr Tryd.underlying22 Y3) ?_
  refine L.S (S.ld Tryd.underlying3) ?_
  refine L.Y Y.asg ?_
  refine L.Y Y.asg ?_
  refine AList.nil ?_
  refine AWp.region ?_
  refine L.Y Y.mv ?_
  refine L.Y Y.mv ?_
  refine L.Y (Y.fa (off := 1) Tryd.underlying26 Y22) ?_
  refine L.S (S.ld Tryd.underlying22) ?_
  refine L.Y Y.mv ?_
  refine L.Y (Y.ixr Tryd.underlying22 Y3) ?_
  refine L.S (S.ld Tryd.underlying3) ?_
  refine L.Y Y.bin ?_
  replace h := Option.bind_eq_some_iff.1 h
  obtain ⟨t236, hc4, h⟩ := h
  refine L.C (C.callE (l := true) [] Tryd.func30 (spec_seMany.ac _ _ _ hc4) .nil ?_)
  refine L.Y Y.bin ?_
  refine L.Y Y.asg ?_
  refine AList.nil ?_
  refine W.kp [2, 3, 5, 6, 7, 9, 10, 11, 12] ?_
  refine AWp.region ?_
  refine L.Y Y.bin ?_
  refine L.Y Y.mv ?_
  refine AList.nil ?_
  exact ⟨k1, by omega, _, _, ⟨by omega, _, _, _, _, _, rfl, rfl, h⟩, IsPart.at [] [0, 1] base0 (H.c (H.c .nil)) (E.c (E.c (E.c (E.c (E.c (E.c .nil))))))⟩
 ·
  have hb3 := hb
  try simp only [hS, hE, ne_eq] at hb
  first | rw [if_pos hb3] at h | rw [if_neg (Bool.eq_false_iff.1 hb3)] at h | rw [if_pos hb] at h | rw [if_neg hb] at h | (simp only [hb, hT, reduceIte] at h) | skip
  refine AWp.exit ?_
  refine AWp.seq ?_
  refine AWp.region ?_
  refine L.Y Y.mv ?_
  refine L.Y Y.asg ?_
  refine AList.nil ?_
  obtain rfl := Option.some.inj h
  refine AWp.ret ?_
  exact ⟨.inr rfl, [(4, _)], _, ⟨rfl, rfl⟩, IsPart.at [] [] base0 .nil (E.c .nil)⟩

/-! ### spec_NearestOf: function 5 -/
mutual
def spec_NearestOf.j0 : Nat → Int → Bool → Int → List Int → Option (Int × List Int × Int × Bool)
 | 0, _, _, _, _ => none
 | k + 1, x1, x25, x238000, x238001 => if x25 = true then (some (0, ([] : List Int), 0, false)) else ((spec_cfOrders.f k x238000 ([] : List Int) x1).bind fun t243 => (spec_NearestOf.l0 k (-1) t243 (t243.length : Int) 0 x238000 x238001 0 ([] : List Int)))
def spec_NearestOf.l0 : Nat → Int → List (S26) → Int → Int → Int → List Int → Int → List Int → Option (Int × List Int × Int × Bool)
 | 0, _, _, _, _, _, _, _, _ => none
 | k + 1, x8, x30, x31, x32, x238000, x238001, x243000, x243001 => if x32 < x31 then (if 0 ≤ x32 then (if x32 < (x30.length : Int) then ((spec_cfApart.f k x238000 x238001 ((Enc.rd x30 x32).f0) ((Enc.rd x30 x32).f1)).bind fun t248 => (if x8 < 0 then (spec_NearestOf.l0 k t248 x30 x31 (wrap64 (x32 + 1)) x238000 x238001 ((Enc.rd x30 x32).f0) ((Enc.rd x30 x32).f1)) else (if t248 < x8 then (spec_NearestOf.l0 k t248 x30 x31 (wrap64 (x32 + 1)) x238000 x238001 ((Enc.rd x30 x32).f0) ((Enc.rd x30 x32).f1)) else (spec_NearestOf.l0 k x8 x30 x31 (wrap64 (x32 + 1)) x238000 x238001 x243000 x243001)))) else (none)) else (none)) else (some (x243000, x243001, x8, true))
end
def spec_NearestOf.f (k : Nat) (a0_0 : Int) (l0_1 : List Int) (a1 : Int) : Option (Int × List Int × Int × Bool) := (spec_orRelation.f k a0_0 l0_1).bind fun t239 => (if t239 = true then ((spec_cfSize.f a0_0).bind fun t240 => (if t240 = true then ((spec_cfKinds.f a1).bind fun t241 => (spec_NearestOf.j0 k a1 (!t241) a0_0 l0_1)) else (spec_NearestOf.j0 k a1 true a0_0 l0_1))) else (spec_NearestOf.j0 k a1 true a0_0 l0_1))
set_option maxRecDepth 100000 in
set_option maxHeartbeats 20000000 in
theorem spec_NearestOf.ac (k : Nat) (a0_0 : Int) (l0_1 : List Int) (a1 : Int) (r1 : Int) (r2 : List Int) (r3 : Int) (r4 : Bool) (h : spec_NearestOf.f k a0_0 l0_1 a1 = some (r1, r2, r3, r4)) :
  ACalls Tryd.prog 5 [.agg [.lit (.int .i64 a0_0), .row 1 l0_1.length false (ints .i64 l0_1)], .lit (.int .i64 a1)] [] (fun v H' => v = .tup [.agg [.lit (.int .i64 r1), .row 1 r2.length false (ints .i64 r2)], .lit (.int .i64 r3), .lit (.bool r4)] ∧ H' = []) := by
 refine ACalls.ofV Tryd.func5 rfl (by exact Nat.le_of_ble_eq_true rfl) ?_
 simp only [Tryd.ntmps5, env0, spec_NearestOf.f] at h ⊢
 refine AWp.seq ?_
 refine AWp.region ?_
 refine L.M M.bx ?_
 refine L.M (M.al Y26) ?_
 refine L.Y Y.asg ?_
 refine L.Y Y.asg ?_
 refine AList.nil ?_
 refine AWp.seq ?_
 refine AWp.seq ?_
 refine AWp.region ?_
 refine L.S (S.ldN Tryd.underlying26 Y26) ?_
 replace h := Option.bind_eq_some_iff.1 h
 obtain ⟨t239, hc1, h⟩ := h
 refine L.C (C.callE (l := true) [] Tryd.func12 (spec_orRelation.ac _ _ _ _ hc1) .nil ?_)
 refine L.Y Y.nt ?_
 refine L.Y Y.mv ?_
 refine L.Gc (fun hb => ?_) (fun hb => ?_)
 ·
  have hb2 := hb
  try simp only [hS, hE, ne_eq] at hb
  first | rw [if_pos hb2] at h | rw [if_neg (Bool.eq_false_iff.1 hb2)] at h | rw [if_pos hb] at h | rw [if_neg hb] at h | (simp only [hb, hT, reduceIte] at h) | skip
  refine L.Gn hb2 ?_
  refine L.Gn hb2 ?_
  refine L.Gn hb2 ?_
  refine L.Gn hb2 ?_
  refine L.Y (Y.pk (c := true) hb2) ?_
  refine L.Y Y.mv ?_
  refine L.Gc (fun hb => ?_) (fun hb => ?_)
  rotate_left
  ·
   first | exact Bool.false_ne_true ((Eq.symm (by assumption)).trans hb) | exact Bool.false_ne_true (hb.symm.trans (by assumption)) | exact DD hb
  have hb3 := hb
  refine L.Gn hb3 ?_
  refine L.Gn hb3 ?_
  refine L.Gn hb3 ?_
  refine L.Y (Y.pk (c := true) hb3) ?_
  refine AList.nil ?_
  rcases k with _ | k
  ·
   exact absurd h (by simp [spec_NearestOf.j0])
  simp only [spec_NearestOf.j0] at h
  refine W.cond (fun hb => ?_) (fun hb => ?_)
  rotate_left
  ·
   first | exact Bool.false_ne_true ((Eq.symm (by assumption)).trans hb) | exact Bool.false_ne_true (hb.symm.trans (by assumption)) | exact DD hb
  have hb4 := hb
  try (first | rw [if_pos hb4] at h | rw [if_neg (Bool.eq_false_iff.1 hb4)] at h | rw [if_pos hb] at h | rw [if_neg hb] at h | (simp only [hb, hT, reduceIte] at h) | skip)
  refine AWp.seq ?_
  refine W.kp [0, 1, 2, 4, 5, 6, 25] ?_
  refine AWp.region ?_
  refine L.Y (Y.bd Tryd.underlying26 Y26 P26) ?_
  refine L.S (S.stb Y26) ?_
  refine L.Y Y.asg ?_
  refine L.Y Y.asg ?_
  refine AList.nil ?_
  simp only [Option.some.injEq, Prod.mk.injEq] at h
  obtain ⟨rfl, rfl, rfl, rfl⟩ := h
  refine AWp.ret ?_
  exact ⟨.inr rfl, _, _, _, Res.n3 (Res1.cl (p := 4) Tryd.underlying26 Y26) (Res1.tm (q := 5)) (Res1.tm (q := 6)), ⟨rfl, rfl⟩, PartV.at [] [] base0 .nil⟩
 ·
  have hb2 := hb
  try simp only [hS, hE, ne_eq] at hb
  first | rw [if_pos hb2] at h | rw [if_neg (Bool.eq_false_iff.1 hb2)] at h | rw [if_pos hb] at h | rw [if_neg hb] at h | (simp only [hb, hT, reduceIte] at h) | skip
  refine L.Gy hb2 (Y.fa (off := 0) Tryd.underlying26 Y3) ?_
  refine L.Gs hb2 (S.ld Tryd.underlying3) ?_
  replace h := Option.bind_eq_some_iff.1 h
  obtain ⟨t240, hc5, h⟩ := h
  refine L.GC hb2 (C.callE (l := true) [] Tryd.func13 (spec_cfSize.ac _ _ hc5) .nil ?_)
  refine L.Gy hb2 Y.nt ?_
  refine L.Y (Y.pk (c := false) hb2) ?_
  refine L.Y Y.mv ?_
  refine L.Gc (fun hb => ?_) (fun hb => ?_)
  ·
   have hb6 := hb
   try simp only [hS, hE, ne_eq] at hb
   first | rw [if_pos hb6] at h | rw [if_neg (Bool.eq_false_iff.1 hb6)] at h | rw [if_pos hb] at h | rw [if_neg hb] at h | (simp only [hb, hT, reduceIte] at h) | skip
   refine L.Gn hb6 ?_
   refine L.Gn hb6 ?_
   refine L.Gn hb6 ?_
   refine L.Y (Y.pk (c := true) hb6) ?_
   refine AList.nil ?_
   rcases k with _ | k
   ·
    exact absurd h (by simp [spec_NearestOf.j0])
   simp only [spec_NearestOf.j0] at h
   refine W.cond (fun hb => ?_) (fun hb => ?_)
   rotate_left
   ·
    first | exact Bool.false_ne_true ((Eq.symm (by assumption)).trans hb) | exact Bool.false_ne_true (hb.symm.trans (by assumption)) | exact DD hb
   have hb7 := hb
   try (first | rw [if_pos hb7] at h | rw [if_neg (Bool.eq_false_iff.1 hb7)] at h | rw [if_pos hb] at h | rw [if_neg hb] at h | (simp only [hb, hT, reduceIte] at h) | skip)
   refine AWp.seq ?_
   refine W.kp [0, 1, 2, 4, 5, 6, 25] ?_
   refine AWp.region ?_
   refine L.Y (Y.bd Tryd.underlying26 Y26 P26) ?_
   refine L.S (S.stb Y26) ?_
   refine L.Y Y.asg ?_
   refine L.Y Y.asg ?_
   refine AList.nil ?_
   simp only [Option.some.injEq, Prod.mk.injEq] at h
   obtain ⟨rfl, rfl, rfl, rfl⟩ := h
   refine AWp.ret ?_
   exact ⟨.inr rfl, _, _, _, Res.n3 (Res1.cl (p := 4) Tryd.underlying26 Y26) (Res1.tm (q := 5)) (Res1.tm (q := 6)), ⟨rfl, rfl⟩, PartV.at [] [] base0 .nil⟩
  ·
   have hb6 := hb
   try simp only [hS, hE, ne_eq] at hb
   first | rw [if_pos hb6] at h | rw [if_neg (Bool.eq_false_iff.1 hb6)] at h | rw [if_pos hb] at h | rw [if_neg hb] at h | (simp only [hb, hT, reduceIte] at h) | skip
   refine L.Gy hb6 Y.mv ?_
   replace h := Option.bind_eq_some_iff.1 h
   obtain ⟨t241, hc8, h⟩ := h
   refine L.GC hb6 (C.callE (l := true) [] Tryd.func14 (spec_cfKinds.ac _ _ hc8) .nil ?_)
   refine L.Gy hb6 Y.nt ?_
   refine L.Y (Y.pk (c := false) hb6) ?_
   refine AList.nil ?_
   rcases k with _ | k
   ·
    exact absurd h (by simp [spec_NearestOf.j0])
   simp only [spec_NearestOf.j0] at h
   refine W.cond (fun hb => ?_) (fun hb => ?_)
   ·
    have hb9 := hb
    try simp only [hS, hE, ne_eq] at hb
    first | rw [if_pos hb9] at h | rw [if_neg (Bool.eq_false_iff.1 hb9)] at h | rw [if_pos hb] at h | rw [if_neg hb] at h | (simp only [hb, hT, reduceIte] at h) | skip
    refine AWp.seq ?_
    refine W.kp [0, 1, 2, 4, 5, 6, 25] ?_
    refine AWp.region ?_
    refine L.Y (Y.bd Tryd.underlying26 Y26 P26) ?_
    refine L.S (S.stb Y26) ?_
    refine L.Y Y.asg ?_
    refine L.Y Y.asg ?_
    refine AList.nil ?_
    simp only [Option.some.injEq, Prod.mk.injEq] at h
    obtain ⟨rfl, rfl, rfl, rfl⟩ := h
    refine AWp.ret ?_
    exact ⟨.inr rfl, _, _, _, Res.n3 (Res1.cl (p := 4) Tryd.underlying26 Y26) (Res1.tm (q := 5)) (Res1.tm (q := 6)), ⟨rfl, rfl⟩, PartV.at [] [] base0 .nil⟩
   ·
    have hb9 := hb
    try simp only [hS, hE, ne_eq] at hb
    first | rw [if_pos hb9] at h | rw [if_neg (Bool.eq_false_iff.1 hb9)] at h | rw [if_pos hb] at h | rw [if_neg hb] at h | (simp only [hb, hT, reduceIte] at h) | skip
    refine AWp.skip ?_
    refine AWp.seq ?_
    refine W.kp [0, 1, 2, 4, 5, 6, 25] ?_
    refine AWp.region ?_
    refine L.M (M.al Y26) ?_
    refine AList.nil ?_
    refine AWp.seq ?_
    refine AWp.region ?_
    refine L.Y Y.asg ?_
    refine AList.nil ?_
    refine AWp.seq ?_
    refine AWp.seq ?_
    refine AWp.region ?_
    refine L.Y (Y.fa (off := 0) Tryd.underlying26 Y3) ?_
    refine L.S (S.ld Tryd.underlying3) ?_
    refine L.Y Y.mv ?_
    replace h := Option.bind_eq_some_iff.1 h
    obtain ⟨t243, hc10, h⟩ := h
    refine L.C (C.callE (l := false) [] Tryd.func15 (spec_cfOrders.ac _ _ _ _ _ hc10) .nil ?_)
    refine L.Y (Y.ln Tryd.underlying36) ?_
    refine L.Y Y.mv ?_
    refine AList.nil ?_
    refine AWp.block ?_
    refine AWp.loopI (fun kk e H => kk ≤ k ∧ ∃ (x8 : Int) (x30 : List (S26)) (x31 : Int) (x32 : Int) (x238000 : Int) (x239000 : Int) (x243000 : Int) (x243001 : List Int), e = [(2, .ptr 0 0), (4, .ptr 1 0), (7, .ptr 2 0), (8, .lit (.int .i64 x8)), (30, .own 3 x30.length), (31, .lit (.int .i64 x31)), (32, .lit (.int .i64 x32))] ∧ H = [.bx 26 [.lit (.int .i64 x238000), .row 1 l0_1.length false (ints .i64 l0_1)], .bx 26 [.lit (.int .i64 x239000), .lit (.slice none 0 0)], .bx 26 [.lit (.int .i64 x243000), .row 1 x243001.length false (ints .i64 x243001)], .sl 26 2 x30.length false (Enc.cells x30)] ∧ spec_NearestOf.l0 kk x8 x30 x31 x32 x238000 l0_1 x243000 x243001 = some (r1, r2, r3, r4)) (k := k)
     ⟨_, _, ⟨Nat.le_refl _, _, _, _, _, _, _, _, _, rfl, rfl, h⟩, IsPart.at [] [0, 1, 2, 3] base0 (H.c (H.c (H.c (H.c .nil)))) (E.c (E.c (E.c (E.c (E.c (E.c (E.c .nil)))))))⟩ ?_
    clear h
    rintro k11 e H ⟨hk12, x8, x30, x31, x32, x238000, x239000, x243000, x243001, rfl, rfl, h⟩
    cases k11 with
    | zero => exact absurd h (by simp [spec_NearestOf.l0])
    | succ k11 =>
    simp only [spec_NearestOf.l0] at h
    refine AWp.seq ?_
    refine AWp.region ?_
    refine L.Y Y.bin ?_
    refine AList.nil ?_
    refine AWp.seq ?_
    refine W.cond (fun hb => ?_) (fun hb => ?_)
    ·
     have hb13 := hb
     try simp only [hS, hE, ne_eq] at hb
     first | rw [if_pos hb13] at h | rw [if_neg (Bool.eq_false_iff.1 hb13)] at h | rw [if_pos hb] at h | rw [if_neg hb] at h | (simp only [hb, hT, reduceIte] at h) | skip
     repeat (first | (rw [iN] at h; obtain ⟨_, h⟩ := h) | (rw [iP] at h; obtain ⟨_, h⟩ := h) | (simp only [bS] at h))
     refine AWp.skip ?_
     refine AWp.seq ?_
     refine AWp.block ?_
     refine AWp.seq ?_
     refine AWp.region ?_
     refine L.Y (Y.ixo Tryd.underlying36 Y26) ?_
     refine L.S (S.ldTN 2 Tryd.underlying26 Y26 en_T26) ?_
     refine L.M (M.al Y26) ?_
     refine L.S (S.stb Y26) ?_
     refine AList.nil ?_
     refine AWp.seq ?_
     refine AWp.region ?_
     refine L.S (S.ldN Tryd.underlying26 Y26) ?_
     refine L.S (S.ldN Tryd.underlying26 Y26) ?_
     replace h := Option.bind_eq_some_iff.1 h
     obtain ⟨t248, hc14, h⟩ := h
     refine L.C (C.callE (l := true) [] Tryd.func16 (spec_cfApart.ac _ _ _ _ _ _ hc14) .nil ?_)
     refine L.Y Y.asg ?_
     refine AList.nil ?_
     refine AWp.seq ?_
     refine W.kp [2, 4, 7, 8, 10, 11, 30, 31, 32, 33] ?_
     refine AWp.region ?_
     refine L.Y Y.mv ?_
     refine L.Y Y.bin ?_
     refine L.Y Y.mv ?_
     refine L.Gc (fun hb => ?_) (fun hb => ?_)
     ·
      have hb15 := hb
      try simp only [hS, hE, ne_eq] at hb
      first | rw [if_pos hb15] at h | rw [if_neg (Bool.eq_false_iff.1 hb15)] at h | rw [if_pos hb] at h | rw [if_neg hb] at h | (simp only [hb, hT, reduceIte] at h) | skip
      refine L.Gn hb15 ?_
      refine L.Gn hb15 ?_
      refine L.Gn hb15 ?_
      refine L.Y (Y.pk (c := true) hb15) ?_
      refine AList.nil ?_
      refine W.cond (fun hb => ?_) (fun hb => ?_)
      rotate_left
      ·
       first | exact Bool.false_ne_true ((Eq.symm (by assumption)).trans hb) | exact Bool.false_ne_true (hb.symm.trans (by assumption)) | exact DD hb
      have hb16 := hb
      refine AWp.seq ?_
      refine W.kp [2, 4, 7, 8, 10, 11, 30, 31, 32, 33, 45] ?_
      refine AWp.region ?_
      refine L.S (S.ldN Tryd.underlying26 Y26) ?_
      refine L.S (S.stb Y26) ?_
      refine AList.nil ?_
      refine AWp.region ?_
      refine L.Y Y.mv ?_
      refine L.Y Y.asg ?_
      refine AList.nil ?_
      refine AWp.region ?_
      refine L.Y Y.bin ?_
      refine L.Y Y.mv ?_
      refine AList.nil ?_
      exact ⟨k11, by omega, _, _, ⟨by omega, _, _, _, _, _, _, _, _, rfl, rfl, h⟩, IsPart.at [] [0, 1, 2, 3] base0 (H.c (H.c (H.c (H.c .nil)))) (E.c (E.c (E.c (E.c (E.c (E.c (E.c .nil)))))))⟩
     ·
      have hb15 := hb
      try simp only [hS, hE, ne_eq] at hb
      first | rw [if_pos hb15] at h | rw [if_neg (Bool.eq_false_iff.1 hb15)] at h | rw [if_pos hb] at h | rw [if_neg hb] at h | (simp only [hb, hT, reduceIte] at h) | skip
      refine L.Gy hb15 Y.mv ?_
      refine L.Gy hb15 Y.mv ?_
      refine L.Gy hb15 Y.bin ?_
      refine L.Y (Y.pk (c := false) hb15) ?_
      refine AList.nil ?_
      refine W.cond (fun hb => ?_) (fun hb => ?_)
      ·
       have hb17 := hb
       try simp only [hS, hE, ne_eq] at hb
       first | rw [if_pos hb17] at h | rw [if_neg (Bool.eq_false_iff.1 hb17)] at h | rw [if_pos hb] at h | rw [if_neg hb] at h | (simp only [hb, hT, reduceIte] at h) | skip
       refine AWp.seq ?_
       refine W.kp [2, 4, 7, 8, 10, 11, 30, 31, 32, 33, 45] ?_
       refine AWp.region ?_
       refine L.S (S.ldN Tryd.underlying26 Y26) ?_
       refine L.S (S.stb Y26) ?_
       refine AList.nil ?_
       refine AWp.region ?_
       refine L.Y Y.mv ?_
       refine L.Y Y.asg ?_
       refine AList.nil ?_
       refine AWp.region ?_
       refine L.Y Y.bin ?_
       refine L.Y Y.mv ?_
       refine AList.nil ?_
       exact ⟨k11, by omega, _, _, ⟨by omega, _, _, _, _, _, _, _, _, rfl, rfl, h⟩, IsPart.at [] [0, 1, 2, 3] base0 (H.c (H.c (H.c (H.c .nil)))) (E.c (E.c (E.c (E.c (E.c (E.c (E.c .nil)))))))⟩
      ·
       have hb17 := hb
       try simp only [hS, hE, ne_eq] at hb
       first | rw [if_pos hb17] at h | rw [if_neg (Bool.eq_false_iff.1 hb17)] at h | rw [if_pos hb] at h | rw [if_neg hb] at h | (simp only [hb, hT, reduceIte] at h) | skip
       refine AWp.skip ?_
       refine W.kp [2, 4, 7, 8, 10, 11, 30, 31, 32, 33, 45] ?_
       refine AWp.region ?_
       refine L.Y Y.bin ?_
       refine L.Y Y.mv ?_
       refine AList.nil ?_
       exact ⟨k11, by omega, _, _, ⟨by omega, _, _, _, _, _, _, _, _, rfl, rfl, h⟩, IsPart.at [] [0, 1, 2, 3] base0 (H.c (H.c (H.c (H.c .nil)))) (E.c (E.c (E.c (E.c (E.c (E.c (E.c .nil)))))))⟩
    ·
     have hb13 := hb
     try simp only [hS, hE, ne_eq] at hb
     first | rw [if_pos hb13] at h | rw [if_neg (Bool.eq_false_iff.1 hb13)] at h | rw [if_pos hb] at h | rw [if_neg hb] at h | (simp only [hb, hT, reduceIte] at h) | skip
     refine AWp.exit ?_
     refine AWp.seq ?_
     refine AWp.region ?_
     refine L.S (S.ldN Tryd.underlying26 Y26) ?_
     refine L.Y Y.mv ?_
     refine L.S (S.stb Y26) ?_
     refine L.Y Y.asg ?_
     refine L.Y Y.asg ?_
     refine AList.nil ?_
     simp only [Option.some.injEq, Prod.mk.injEq] at h
     obtain ⟨rfl, rfl, rfl, rfl⟩ := h
     refine AWp.ret ?_
     exact ⟨.inr rfl, _, _, _, Res.n3 (Res1.cl (p := 4) Tryd.underlying26 Y26) (Res1.tm (q := 5)) (Res1.tm (q := 6)), ⟨rfl, rfl⟩, PartV.at [] [] base0 .nil⟩

end Go.Proofs.YtdaneldckdjjoaaDoor.PFnExactNearestOf
