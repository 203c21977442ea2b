-- Written by a program of this session's (wip/myprint2): the functions by the kit's print, the walks by awgen.py. Lean checks it.
import Derived.Test.YtakabmokpknknaaDoorPFnTablesOfRelationsx0
import Derived.Test.YtakabmokpknknaaDoorPFnTablesOfRelationsx1
namespace Go.Proofs.YtakabmokpknknaaDoor.PFnTablesOfRelations
open Go.RowKit Go.Proofs.YtakabmokpknknaaDoorW.PrintWords Go.Proofs.YtakabmokpknknaaDoorW.PrintLast Go.Proofs.YtakabmokpknknaaDoorW.PrintMore Go.Proofs.YtakabmokpknknaaDoorM Go.Proofs.YtakabmokpknknaaDoorA Go.Proofs.YtakabmokpknknaaDoorT
attribute [local go_sem] max2_int min2_int max_two min_two max_three min_three max_four min_four   -- for this text's walks alone
set_option linter.unusedVariables false
set_option linter.unusedSimpArgs false

/-! ### impl_members: function 105 -/
def impl_members.l0 : Nat → Int → List Int → Option (List Int)
 | 0, _, _ => none
 | k + 1, x0, x3 => if x0 = 0 then (some x3) else ((bits_TrailingZeros.f (IntKind.u64.wrap (x0))).bind fun t119 => (if x3.length < 17592186044416 then (impl_members.l0 k (Go.bits .and .i64 x0 (wrap64 (x0 - 1))) (x3 ++ [t119])) else (none)))
def impl_members.f (k : Nat) (a0 : Int) : Option (List Int) := impl_members.l0 k a0 (([] : List Int))
theorem impl_members.mono_l : ∀ k, (∀ y0 y1, LeO (impl_members.l0 k y0 y1) (impl_members.l0 (k + 1) y0 y1))
 | 0 => fun _ _ r h => by simp [impl_members.l0] at h
 | k + 1 => by
  have ih0 := impl_members.mono_l k
  ·
   intro y0 y1
   unfold impl_members.l0
   repeat' first
   | (with_reducible exact ih0 _ _)
   | (with_reducible exact LeO.refl _)
   | (with_reducible exact LeO.none _)
   | (with_reducible refine LeO.ite ?_ ?_)
   | (with_reducible refine LeO.bind ?_ (fun _ => ?_))
   | exact ih0 _ _
   | exact LeO.none _
   | refine LeO.ite ?_ ?_
   | refine LeO.bind ?_ (fun _ => ?_)
theorem impl_members.mono : ∀ a0 k, LeO (impl_members.f k a0) (impl_members.f (k + 1) a0) := by
 intro a0 k
 have ih0 := impl_members.mono_l k
 unfold impl_members.f
 repeat' first
   | (with_reducible exact ih0 _ _)
   | (with_reducible exact LeO.refl _)
   | (with_reducible exact LeO.none _)
   | (with_reducible refine LeO.ite ?_ ?_)
   | (with_reducible refine LeO.bind ?_ (fun _ => ?_))
   | exact ih0 _ _
   | exact LeO.none _
   | refine LeO.ite ?_ ?_
   | refine LeO.bind ?_ (fun _ => ?_)
set_option maxRecDepth 100000 in
set_option maxHeartbeats 20000000 in
theorem impl_members.ac (k : Nat) (a0 : Int) (r : List Int) (h : impl_members.f k a0 = some r) :
  ACalls Tryd.prog 105 [.lit (.int .i64 a0)] [] (fun v H' => v = .own 0 r.length ∧ H' = [.sl 3 1 r.length false (ints .i64 r)]) := by
 refine ACalls.ofP [2] Tryd.func105 rfl (by exact Nat.le_of_ble_eq_true rfl) rfl (by decide) ?_
 simp only [Tryd.ntmps105, env0, impl_members.f] at h ⊢
 repeat (first | (rw [iN] at h; obtain ⟨_, h⟩ := h) | (rw [iP] at h; obtain ⟨_, h⟩ := h) | (simp only [bS] at h))
 refine AWp.seq ?_
 refine AWp.region ?_
 refine L.Y Y.asg ?_
 refine AList.nil ?_
 refine AWp.seq ?_
 refine AWp.region ?_
 refine L.M (M.bs Tryd.underlying22 Y3) ?_
 refine L.Y Y.asg ?_
 refine AList.nil ?_
 refine AWp.seq ?_
 refine AWp.block ?_
 refine AWp.loopI (fun kk e H => kk ≤ k ∧ ∃ (x0 : Int) (x3 : List Int), e = [(0, .lit (.int .i64 x0)), (2, .lit (.slice none 0 0)), (3, .own 0 x3.length)] ∧ H = [.sl 3 1 x3.length true (ints .i64 x3)] ∧ impl_members.l0 kk x0 x3 = some r) (k := k)
  ⟨_, _, ⟨Nat.le_refl _, _, _, rfl, rfl, h⟩, IsPart.at [] [0] base0 (H.c .nil) (E.c (E.c (E.c .nil)))⟩ ?_
 clear h
 rintro k1 e H ⟨hk2, x0, x3, rfl, rfl, h⟩
 cases k1 with
 | zero => exact absurd h (by simp [impl_members.l0])
 | succ k1 =>
 simp only [impl_members.l0] at h
 refine AWp.seq ?_
 refine AWp.seq ?_
 refine AWp.region ?_
 refine L.Y Y.mv ?_
 refine L.Y Y.bin ?_
 refine AList.nil ?_
 refine W.cond (fun hb => ?_) (fun hb => ?_)
 ·
  have hb3 := hb
  try simp only [hS, hE, ne_eq] at hb
  first | rw [if_pos hb3] at h | rw [if_neg (Bool.eq_false_iff.1 hb3)] at h | rw [if_pos hb] at h | rw [if_neg hb] at h | (simp only [hb, hT, reduceIte] at h) | skip
  refine AWp.skip ?_
  refine AWp.seq ?_
  refine AWp.block ?_
  refine AWp.region ?_
  refine L.Y Y.mv ?_
  refine L.Y Y.mv ?_
  refine L.Y (Y.cv Tryd.underlying3 Tryd.underlying147) ?_
  replace h := Option.bind_eq_some_iff.1 h
  obtain ⟨t119, hc4, h⟩ := h
  repeat (first | (rw [iN] at h; obtain ⟨_, h⟩ := h) | (rw [iP] at h; obtain ⟨_, h⟩ := h) | (simp only [bS] at h))
  refine L.C (C.callE (l := true) [] Tryd.func165 (bits_TrailingZeros.ac _ _ hc4) .nil ?_)
  refine L.M (M.bs Tryd.underlying22 Y3) ?_
  refine L.S (S.ap (nn' := true) Tryd.underlying22 Y3) ?_
  refine L.Y Y.asg ?_
  refine AList.nil ?_
  refine W.kp [0, 2, 3, 6] ?_
  refine AWp.region ?_
  refine L.Y Y.mv ?_
  refine L.Y Y.mv ?_
  refine L.Y Y.bin ?_
  refine L.Y Y.bin ?_
  refine L.Y Y.asg ?_
  refine AList.nil ?_
  exact ⟨k1, by omega, _, _, ⟨by omega, _, _, rfl, rfl, h⟩, IsPart.at [] [0] base0 (H.c .nil) (E.c (E.c (E.c .nil)))⟩
 ·
  have hb3 := hb
  try simp only [hS, hE, ne_eq] at hb
  first | rw [if_pos hb3] at h | rw [if_neg (Bool.eq_false_iff.1 hb3)] at h | rw [if_pos hb] at h | rw [if_neg hb] at h | (simp only [hb, hT, reduceIte] at h) | skip
  refine AWp.exit ?_
  refine AWp.seq ?_
  refine AWp.region ?_
  refine L.Y Y.mv ?_
  refine L.Y Y.asg ?_
  refine AList.nil ?_
  obtain rfl := Option.some.inj h
  refine AWp.ret ?_
  exact ⟨.inr rfl, [(2, _)], _, ⟨rfl, rfl⟩, IsPart.at [] [0] base0 (H.c .nil) (E.c .nil)⟩

/-! ### impl_IsOrder: function 33 -/
mutual
def impl_IsOrder.l0 : Nat → List Int → Int → Int → Int → List Int → Option (Bool)
 | 0, _, _, _, _, _ => none
 | k + 1, x11, x12, x13, x124000, x124001 => if x13 < x12 then (if 0 ≤ x13 then (if x13 < (x11.length : Int) then ((impl_Order_better.f x124000 x124001 x13 x13).bind fun t126 => (if t126 = true then (some false) else ((impl_members.f k (rd x11 x13)).bind fun t127 => (impl_IsOrder.l1 k (rd x11 x13) x11 x12 x13 t127 (t127.length : Int) 0 x124000 x124001)))) else (none)) else (none)) else (some true)
def impl_IsOrder.l1 : Nat → Int → List Int → Int → Int → List Int → Int → Int → Int → List Int → Option (Bool)
 | 0, _, _, _, _, _, _, _, _, _ => none
 | k + 1, x4, x11, x12, x13, x23, x24, x25, x124000, x124001 => if x25 < x24 then (if 0 ≤ x25 then (if x25 < (x23.length : Int) then (if 0 ≤ (rd x23 x25) then (if (rd x23 x25) < (x124001.length : Int) then (if (Go.bits .andNot .i64 (rd x124001 (rd x23 x25)) x4) = 0 then (impl_IsOrder.l1 k x4 x11 x12 x13 x23 x24 (wrap64 (x25 + 1)) x124000 x124001) else (some false)) else (none)) else (none)) else (none)) else (none)) else (impl_IsOrder.l0 k x11 x12 (wrap64 (x13 + 1)) x124000 x124001)
end
def impl_IsOrder.f (k : Nat) (a0_0 : Int) (l0_1 : List Int) : Option (Bool) := (impl_IsRelation.f k a0_0 l0_1).bind fun t124 => (if t124 = true then (impl_IsOrder.l0 k l0_1 (l0_1.length : Int) 0 a0_0 l0_1) else (some false))
set_option maxRecDepth 100000 in
set_option maxHeartbeats 20000000 in
theorem impl_IsOrder.ac (k : Nat) (a0_0 : Int) (l0_1 : List Int) (r : Bool) (h : impl_IsOrder.f k a0_0 l0_1 = some r) :
  ACalls Tryd.prog 33 [.agg [.lit (.int .i64 a0_0), .row 1 l0_1.length false (ints .i64 l0_1)]] [] (fun v H' => v = .lit (.bool r) ∧ H' = []) := by
 refine ACalls.ofP [2] Tryd.func33 rfl (by exact Nat.le_of_ble_eq_true rfl) rfl (by decide) ?_
 simp only [Tryd.ntmps33, env0, impl_IsOrder.f] at h ⊢
 refine AWp.seq ?_
 refine AWp.region ?_
 refine L.M M.bx ?_
 refine L.Y Y.asg ?_
 refine AList.nil ?_
 refine AWp.seq ?_
 refine AWp.seq ?_
 refine AWp.region ?_
 refine L.S (S.ldN Tryd.underlying26 Y26) ?_
 replace h := Option.bind_eq_some_iff.1 h
 obtain ⟨t124, hc1, h⟩ := h
 refine L.C (C.callE (l := true) [] Tryd.func82 (impl_IsRelation.ac _ _ _ _ hc1) .nil ?_)
 refine L.Y Y.nt ?_
 refine AList.nil ?_
 refine W.cond (fun hb => ?_) (fun hb => ?_)
 ·
  have hb2 := hb
  try simp only [hS, hE, ne_eq] at hb
  first | rw [if_pos hb2] at h | rw [if_neg (Bool.eq_false_iff.1 hb2)] at h | rw [if_pos hb] at h | rw [if_neg hb] at h | (simp only [hb, hT, reduceIte] at h) | skip
  refine AWp.seq ?_
  refine AWp.region ?_
  refine L.Y Y.asg ?_
  refine AList.nil ?_
  obtain rfl := Option.some.inj h
  refine AWp.ret ?_
  exact ⟨.inr rfl, [(2, _)], _, ⟨rfl, rfl⟩, IsPart.at [] [] base0 .nil (E.c .nil)⟩
 ·
  have hb2 := hb
  try simp only [hS, hE, ne_eq] at hb
  first | rw [if_pos hb2] at h | rw [if_neg (Bool.eq_false_iff.1 hb2)] at h | rw [if_pos hb] at h | rw [if_neg hb] at h | (simp only [hb, hT, reduceIte] at h) | skip
  refine AWp.skip ?_
  refine AWp.seq ?_
  refine AWp.seq ?_
  refine AWp.region ?_
  refine L.Y (Y.fa (off := 1) Tryd.underlying26 Y22) ?_
  refine L.S (S.ld Tryd.underlying22) ?_
  refine L.Y (Y.ln Tryd.underlying22) ?_
  refine L.Y Y.mv ?_
  refine AList.nil ?_
  refine AWp.block ?_
  refine AWp.loopI (fun kk e H => kk ≤ k ∧ ∃ (x12 : Int) (x13 : Int) (x124000 : Int), e = [(1, .ptr 0 0), (11, .row 1 l0_1.length false (ints .i64 l0_1)), (12, .lit (.int .i64 x12)), (13, .lit (.int .i64 x13))] ∧ H = [.bx 26 [.lit (.int .i64 x124000), .row 1 l0_1.length false (ints .i64 l0_1)]] ∧ impl_IsOrder.l0 kk l0_1 x12 x13 x124000 l0_1 = some r) (k := k)
   ⟨_, _, ⟨Nat.le_refl _, _, _, _, rfl, rfl, h⟩, IsPart.at [] [0] base0 (H.c .nil) (E.c (E.c (E.c (E.c .nil))))⟩ ?_
  clear h
  rintro k3 e H ⟨hk4, x12, x13, x124000, rfl, rfl, h⟩
  cases k3 with
  | zero => exact absurd h (by simp [impl_IsOrder.l0])
  | succ k3 =>
  simp only [impl_IsOrder.l0] at h
  refine AWp.seq ?_
  refine AWp.region ?_
  refine L.Y Y.bin ?_
  refine AList.nil ?_
  refine AWp.seq ?_
  refine W.cond (fun hb => ?_) (fun hb => ?_)
  ·
   have hb5 := hb
   try simp only [hS, hE, ne_eq] at hb
   first | rw [if_pos hb5] at h | rw [if_neg (Bool.eq_false_iff.1 hb5)] at h | rw [if_pos hb] at h | rw [if_neg hb] at h | (simp only [hb, hT, reduceIte] at h) | skip
   repeat (first | (rw [iN] at h; obtain ⟨_, h⟩ := h) | (rw [iP] at h; obtain ⟨_, h⟩ := h) | (simp only [bS] at h))
   refine AWp.skip ?_
   refine AWp.seq ?_
   refine AWp.block ?_
   refine AWp.seq ?_
   refine AWp.region ?_
   refine L.Y Y.mv ?_
   refine L.Y (Y.ixr Tryd.underlying22 Y3) ?_
   refine L.S (S.ld Tryd.underlying3) ?_
   refine L.Y Y.asg ?_
   refine L.Y Y.asg ?_
   refine AList.nil ?_
   refine AWp.seq ?_
   refine AWp.seq ?_
   refine AWp.region ?_
   refine L.S (S.ldN Tryd.underlying26 Y26) ?_
   refine L.Y Y.mv ?_
   refine L.Y Y.mv ?_
   replace h := Option.bind_eq_some_iff.1 h
   obtain ⟨t126, hc6, h⟩ := h
   refine L.C (C.callE (l := true) [] Tryd.func104 (impl_Order_better.ac _ _ _ _ _ hc6) .nil ?_)
   refine AList.nil ?_
   refine W.cond (fun hb => ?_) (fun hb => ?_)
   ·
    have hb7 := hb
    try simp only [hS, hE, ne_eq] at hb
    first | rw [if_pos hb7] at h | rw [if_neg (Bool.eq_false_iff.1 hb7)] at h | rw [if_pos hb] at h | rw [if_neg hb] at h | (simp only [hb, hT, reduceIte] at h) | skip
    refine AWp.seq ?_
    refine W.kp [1, 3, 4, 11, 12, 13, 14, 21] ?_
    refine AWp.region ?_
    refine L.Y Y.asg ?_
    refine AList.nil ?_
    obtain rfl := Option.some.inj h
    refine AWp.ret ?_
    exact ⟨.inr rfl, [(2, _)], _, ⟨rfl, rfl⟩, IsPart.at [] [] base0 .nil (E.c .nil)⟩
   ·
    have hb7 := hb
    try simp only [hS, hE, ne_eq] at hb
    first | rw [if_pos hb7] at h | rw [if_neg (Bool.eq_false_iff.1 hb7)] at h | rw [if_pos hb] at h | rw [if_neg hb] at h | (simp only [hb, hT, reduceIte] at h) | skip
    refine AWp.skip ?_
    refine AWp.seq ?_
    refine W.kp [1, 3, 4, 11, 12, 13, 14, 21] ?_
    refine AWp.region ?_
    refine L.Y Y.mv ?_
    replace h := Option.bind_eq_some_iff.1 h
    obtain ⟨t127, hc8, h⟩ := h
    refine L.C (C.callE (l := true) [] Tryd.func105 (impl_members.ac _ _ _ hc8) .nil ?_)
    refine L.Y (Y.ln Tryd.underlying22) ?_
    refine L.Y Y.mv ?_
    refine AList.nil ?_
    refine AWp.block ?_
    refine AWp.loopI (fun kk e H => kk ≤ k3 ∧ ∃ (x4 : Int) (x12 : Int) (x13 : Int) (x23 : List Int) (x24 : Int) (x25 : Int) (x124000 : Int), e = [(1, .ptr 0 0), (4, .lit (.int .i64 x4)), (11, .row 1 l0_1.length false (ints .i64 l0_1)), (12, .lit (.int .i64 x12)), (13, .lit (.int .i64 x13)), (23, .own 1 x23.length), (24, .lit (.int .i64 x24)), (25, .lit (.int .i64 x25))] ∧ H = [.bx 26 [.lit (.int .i64 x124000), .row 1 l0_1.length false (ints .i64 l0_1)], .sl 3 1 x23.length false (ints .i64 x23)] ∧ impl_IsOrder.l1 kk x4 l0_1 x12 x13 x23 x24 x25 x124000 l0_1 = some r) (k := k3)
     ⟨_, _, ⟨Nat.le_refl _, _, _, _, _, _, _, _, rfl, rfl, h⟩, IsPart.at [] [0, 1] base0 (H.c (H.c .nil)) (E.c (E.c (E.c (E.c (E.c (E.c (E.c (E.c .nil))))))))⟩ ?_
    clear h
    rintro k9 e H ⟨hk10, x4, x12, x13, x23, x24, x25, x124000, rfl, rfl, h⟩
    cases k9 with
    | zero => exact absurd h (by simp [impl_IsOrder.l1])
    | succ k9 =>
    simp only [impl_IsOrder.l1] at h
    refine AWp.seq ?_
    refine AWp.region ?_
    refine L.Y Y.bin ?_
    refine AList.nil ?_
    refine AWp.seq ?_
    refine W.cond (fun hb => ?_) (fun hb => ?_)
    ·
     have hb11 := hb
     try simp only [hS, hE, ne_eq] at hb
     first | rw [if_pos hb11] at h | rw [if_neg (Bool.eq_false_iff.1 hb11)] at h | rw [if_pos hb] at h | rw [if_neg hb] at h | (simp only [hb, hT, reduceIte] at h) | skip
     repeat (first | (rw [iN] at h; obtain ⟨_, h⟩ := h) | (rw [iP] at h; obtain ⟨_, h⟩ := h) | (simp only [bS] at h))
     refine AWp.skip ?_
     refine AWp.seq ?_
     refine AWp.block ?_
     refine AWp.seq ?_
     refine AWp.region ?_
     refine L.Y (Y.ixo Tryd.underlying22 Y3) ?_
     refine L.S (S.ld Tryd.underlying3) ?_
     refine L.Y Y.asg ?_
     refine AList.nil ?_
     refine AWp.seq ?_
     refine AWp.region ?_
     refine L.Y (Y.fa (off := 1) Tryd.underlying26 Y22) ?_
     refine L.S (S.ld Tryd.underlying22) ?_
     refine L.Y Y.mv ?_
     refine L.Y (Y.ixr Tryd.underlying22 Y3) ?_
     refine L.S (S.ld Tryd.underlying3) ?_
     refine L.Y Y.mv ?_
     refine L.Y Y.bin ?_
     refine L.Y Y.bin ?_
     refine AList.nil ?_
     refine W.cond (fun hb => ?_) (fun hb => ?_)
     ·
      have hb12 := hb
      try simp only [hS, hE, ne_eq] at hb
      first | rw [if_pos hb12] at h | rw [if_neg (Bool.eq_false_iff.1 hb12)] at h | rw [if_pos hb] at h | rw [if_neg hb] at h | (simp only [hb, hT, reduceIte] at h) | skip
      refine AWp.seq ?_
      refine W.kp [1, 4, 6, 11, 12, 13, 23, 24, 25, 26, 36] ?_
      refine AWp.region ?_
      refine L.Y Y.asg ?_
      refine AList.nil ?_
      obtain rfl := Option.some.inj h
      refine AWp.ret ?_
      exact ⟨.inr rfl, [(2, _)], _, ⟨rfl, rfl⟩, IsPart.at [] [] base0 .nil (E.c .nil)⟩
     ·
      have hb12 := hb
      try simp only [hS, hE, ne_eq] at hb
      first | rw [if_pos hb12] at h | rw [if_neg (Bool.eq_false_iff.1 hb12)] at h | rw [if_pos hb] at h | rw [if_neg hb] at h | (simp only [hb, hT, reduceIte] at h) | skip
      refine AWp.skip ?_
      refine W.kp [1, 4, 6, 11, 12, 13, 23, 24, 25, 26, 36] ?_
      refine AWp.region ?_
      refine L.Y Y.bin ?_
      refine L.Y Y.mv ?_
      refine AList.nil ?_
      exact ⟨k9, by omega, _, _, ⟨by omega, _, _, _, _, _, _, _, rfl, rfl, h⟩, IsPart.at [] [0, 1] base0 (H.c (H.c .nil)) (E.c (E.c (E.c (E.c (E.c (E.c (E.c (E.c .nil))))))))⟩
    ·
     have hb11 := hb
     try simp only [hS, hE, ne_eq] at hb
     first | rw [if_pos hb11] at h | rw [if_neg (Bool.eq_false_iff.1 hb11)] at h | rw [if_pos hb] at h | rw [if_neg hb] at h | (simp only [hb, hT, reduceIte] at h) | skip
     refine AWp.exit ?_
     refine AWp.region ?_
     refine L.Y Y.bin ?_
     refine L.Y Y.mv ?_
     refine AList.nil ?_
     exact ⟨k9, by omega, _, _, ⟨by omega, _, _, _, rfl, rfl, h⟩, IsPart.at [] [0] base0 (H.c .nil) (E.c (E.c (E.c (E.c .nil))))⟩
  ·
   have hb5 := hb
   try simp only [hS, hE, ne_eq] at hb
   first | rw [if_pos hb5] at h | rw [if_neg (Bool.eq_false_iff.1 hb5)] at h | rw [if_pos hb] at h | rw [if_neg hb] at h | (simp only [hb, hT, reduceIte] at h) | skip
   refine AWp.exit ?_
   refine AWp.seq ?_
   refine AWp.region ?_
   refine L.Y Y.asg ?_
   refine AList.nil ?_
   obtain rfl := Option.some.inj h
   refine AWp.ret ?_
   exact ⟨.inr rfl, [(2, _)], _, ⟨rfl, rfl⟩, IsPart.at [] [] base0 .nil (E.c .nil)⟩

/-! ### impl_Order_twoTwo: function 187 -/
mutual
def impl_Order_twoTwo.l0 : Nat → Int → Int → Int → List Int → Option (List Int)
 | 0, _, _, _, _ => none
 | k + 1, x8, x9, x133000, x133001 => if x9 < x8 then (impl_Order_twoTwo.l1 k x9 x8 x9 x133000 0 x133000 x133001) else (some ([] : List Int))
def impl_Order_twoTwo.l1 : Nat → Int → Int → Int → Int → Int → Int → List Int → Option (List Int)
 | 0, _, _, _, _, _, _, _ => none
 | k + 1, x3, x8, x9, x13, x14, x133000, x133001 => if x14 < x13 then (impl_Order_twoTwo.l2 k x3 x14 x8 x9 x13 x14 x133000 0 x133000 x133001) else (impl_Order_twoTwo.l0 k x8 (wrap64 (x9 + 1)) x133000 x133001)
def impl_Order_twoTwo.l2 : Nat → Int → Int → Int → Int → Int → Int → Int → Int → Int → List Int → Option (List Int)
 | 0, _, _, _, _, _, _, _, _, _, _ => none
 | k + 1, x3, x4, x8, x9, x13, x14, x18, x19, x133000, x133001 => if x19 < x18 then (impl_Order_twoTwo.l3 k x3 x4 x19 x8 x9 x13 x14 x18 x19 x133000 0 x133000 x133001) else (impl_Order_twoTwo.l1 k x3 x8 x9 x13 (wrap64 (x14 + 1)) x133000 x133001)
def impl_Order_twoTwo.l3 : Nat → Int → Int → Int → Int → Int → Int → Int → Int → Int → Int → Int → Int → List Int → Option (List Int)
 | 0, _, _, _, _, _, _, _, _, _, _, _, _, _ => none
 | k + 1, x3, x4, x5, x8, x9, x13, x14, x18, x19, x23, x24, x133000, x133001 => if x24 < x23 then ((impl_Order_better.f x133000 x133001 x3 x4).bind fun t133 => (if t133 = true then ((impl_Order_better.f x133000 x133001 x5 x24).bind fun t134 => (if t134 = true then ((impl_Order_better.f x133000 x133001 x5 x4).bind fun t135 => (if t135 = true then (impl_Order_twoTwo.l3 k x3 x4 x5 x8 x9 x13 x14 x18 x19 x23 (wrap64 (x24 + 1)) x133000 x133001) else ((impl_Order_better.f x133000 x133001 x3 x24).bind fun t136 => (if t136 = true then (impl_Order_twoTwo.l3 k x3 x4 x5 x8 x9 x13 x14 x18 x19 x23 (wrap64 (x24 + 1)) x133000 x133001) else ((some (([x3, x4, x5, x24] : List Int) : List Int)).bind fun y137 => (if y137 = [] then (none) else (some y137))))))) else (impl_Order_twoTwo.l3 k x3 x4 x5 x8 x9 x13 x14 x18 x19 x23 (wrap64 (x24 + 1)) x133000 x133001))) else (impl_Order_twoTwo.l3 k x3 x4 x5 x8 x9 x13 x14 x18 x19 x23 (wrap64 (x24 + 1)) x133000 x133001))) else (impl_Order_twoTwo.l2 k x3 x4 x8 x9 x13 x14 x18 (wrap64 (x19 + 1)) x133000 x133001)
end
def impl_Order_twoTwo.f (k : Nat) (a0_0 : Int) (l0_1 : List Int) : Option (List Int) := impl_Order_twoTwo.l0 k a0_0 0 a0_0 l0_1
set_option maxRecDepth 100000 in
set_option maxHeartbeats 20000000 in
theorem impl_Order_twoTwo.acq (k : Nat) (a0_0 : Int) (l0_1 : List Int) (r : List Int) (h : impl_Order_twoTwo.f k a0_0 l0_1 = some r) :
  ACalls Tryd.prog 187 [.agg [.lit (.int .i64 a0_0), .row 1 l0_1.length false (ints .i64 l0_1)]] [] (fun v H' => (r = [] ∧ v = .lit (.slice none 0 0) ∧ H' = []) ∨ (r ≠ [] ∧ v = .own 0 r.length ∧ H' = [.sl 3 1 r.length true (ints .i64 r)])) := by
 refine ACalls.ofP [2] Tryd.func187 rfl (by exact Nat.le_of_ble_eq_true rfl) rfl (by decide) ?_
 simp only [Tryd.ntmps187, env0, impl_Order_twoTwo.f] at h ⊢
 refine AWp.seq ?_
 refine AWp.region ?_
 refine L.M M.bx ?_
 refine L.Y Y.asg ?_
 refine AList.nil ?_
 refine AWp.seq ?_
 refine AWp.seq ?_
 refine AWp.region ?_
 refine L.Y (Y.fa (off := 0) Tryd.underlying26 Y3) ?_
 refine L.S (S.ld Tryd.underlying3) ?_
 refine L.Y Y.mv ?_
 refine AList.nil ?_
 refine AWp.block ?_
 refine AWp.loopI (fun kk e H => kk ≤ k ∧ ∃ (x8 : Int) (x9 : Int) (x133000 : Int), e = [(1, .ptr 0 0), (8, .lit (.int .i64 x8)), (9, .lit (.int .i64 x9))] ∧ H = [.bx 26 [.lit (.int .i64 x133000), .row 1 l0_1.length false (ints .i64 l0_1)]] ∧ impl_Order_twoTwo.l0 kk x8 x9 x133000 l0_1 = some r) (k := k)
  ⟨_, _, ⟨Nat.le_refl _, _, _, _, rfl, rfl, h⟩, IsPart.at [] [0] base0 (H.c .nil) (E.c (E.c (E.c .nil)))⟩ ?_
 clear h
 rintro k1 e H ⟨hk2, x8, x9, x133000, rfl, rfl, h⟩
 cases k1 with
 | zero => exact absurd h (by simp [impl_Order_twoTwo.l0])
 | succ k1 =>
 simp only [impl_Order_twoTwo.l0] at h
 refine AWp.seq ?_
 refine AWp.region ?_
 refine L.Y Y.bin ?_
 refine AList.nil ?_
 refine AWp.seq ?_
 refine W.cond (fun hb => ?_) (fun hb => ?_)
 ·
  have hb3 := hb
  try simp only [hS, hE, ne_eq] at hb
  first | rw [if_pos hb3] at h | rw [if_neg (Bool.eq_false_iff.1 hb3)] at h | rw [if_pos hb] at h | rw [if_neg hb] at h | (simp only [hb, hT, reduceIte] at h) | skip
  refine AWp.skip ?_
  refine AWp.seq ?_
  refine AWp.block ?_
  refine AWp.seq ?_
  refine AWp.region ?_
  refine L.Y Y.mv ?_
  refine L.Y Y.asg ?_
  refine AList.nil ?_
  refine AWp.seq ?_
  refine AWp.region ?_
  refine L.Y (Y.fa (off := 0) Tryd.underlying26 Y3) ?_
  refine L.S (S.ld Tryd.underlying3) ?_
  refine L.Y Y.mv ?_
  refine AList.nil ?_
  refine AWp.block ?_
  refine AWp.loopI (fun kk e H => kk ≤ k1 ∧ ∃ (x3 : Int) (x8 : Int) (x9 : Int) (x13 : Int) (x14 : Int) (x133000 : Int), e = [(1, .ptr 0 0), (3, .lit (.int .i64 x3)), (8, .lit (.int .i64 x8)), (9, .lit (.int .i64 x9)), (13, .lit (.int .i64 x13)), (14, .lit (.int .i64 x14))] ∧ H = [.bx 26 [.lit (.int .i64 x133000), .row 1 l0_1.length false (ints .i64 l0_1)]] ∧ impl_Order_twoTwo.l1 kk x3 x8 x9 x13 x14 x133000 l0_1 = some r) (k := k1)
   ⟨_, _, ⟨Nat.le_refl _, _, _, _, _, _, _, rfl, rfl, h⟩, IsPart.at [] [0] base0 (H.c .nil) (E.c (E.c (E.c (E.c (E.c (E.c .nil))))))⟩ ?_
  clear h
  rintro k4 e H ⟨hk5, x3, x8, x9, x13, x14, x133000, rfl, rfl, h⟩
  cases k4 with
  | zero => exact absurd h (by simp [impl_Order_twoTwo.l1])
  | succ k4 =>
  simp only [impl_Order_twoTwo.l1] at h
  refine AWp.seq ?_
  refine AWp.region ?_
  refine L.Y Y.bin ?_
  refine AList.nil ?_
  refine AWp.seq ?_
  refine W.cond (fun hb => ?_) (fun hb => ?_)
  ·
   have hb6 := hb
   try simp only [hS, hE, ne_eq] at hb
   first | rw [if_pos hb6] at h | rw [if_neg (Bool.eq_false_iff.1 hb6)] at h | rw [if_pos hb] at h | rw [if_neg hb] at h | (simp only [hb, hT, reduceIte] at h) | skip
   refine AWp.skip ?_
   refine AWp.seq ?_
   refine AWp.block ?_
   refine AWp.seq ?_
   refine AWp.region ?_
   refine L.Y Y.mv ?_
   refine L.Y Y.asg ?_
   refine AList.nil ?_
   refine AWp.seq ?_
   refine AWp.region ?_
   refine L.Y (Y.fa (off := 0) Tryd.underlying26 Y3) ?_
   refine L.S (S.ld Tryd.underlying3) ?_
   refine L.Y Y.mv ?_
   refine AList.nil ?_
   refine AWp.block ?_
   refine AWp.loopI (fun kk e H => kk ≤ k4 ∧ ∃ (x3 : Int) (x4 : Int) (x8 : Int) (x9 : Int) (x13 : Int) (x14 : Int) (x18 : Int) (x19 : Int) (x133000 : Int), e = [(1, .ptr 0 0), (3, .lit (.int .i64 x3)), (4, .lit (.int .i64 x4)), (8, .lit (.int .i64 x8)), (9, .lit (.int .i64 x9)), (13, .lit (.int .i64 x13)), (14, .lit (.int .i64 x14)), (18, .lit (.int .i64 x18)), (19, .lit (.int .i64 x19))] ∧ H = [.bx 26 [.lit (.int .i64 x133000), .row 1 l0_1.length false (ints .i64 l0_1)]] ∧ impl_Order_twoTwo.l2 kk x3 x4 x8 x9 x13 x14 x18 x19 x133000 l0_1 = some r) (k := k4)
    ⟨_, _, ⟨Nat.le_refl _, _, _, _, _, _, _, _, _, _, rfl, rfl, h⟩, IsPart.at [] [0] base0 (H.c .nil) (E.c (E.c (E.c (E.c (E.c (E.c (E.c (E.c (E.c .nil)))))))))⟩ ?_
   clear h
   rintro k7 e H ⟨hk8, x3, x4, x8, x9, x13, x14, x18, x19, x133000, rfl, rfl, h⟩
   cases k7 with
   | zero => exact absurd h (by simp [impl_Order_twoTwo.l2])
   | succ k7 =>
   simp only [impl_Order_twoTwo.l2] at h
   refine AWp.seq ?_
   refine AWp.region ?_
   refine L.Y Y.bin ?_
   refine AList.nil ?_
   refine AWp.seq ?_
   refine W.cond (fun hb => ?_) (fun hb => ?_)
   ·
    have hb9 := hb
    try simp only [hS, hE, ne_eq] at hb
    first | rw [if_pos hb9] at h | rw [if_neg (Bool.eq_false_iff.1 hb9)] at h | rw [if_pos hb] at h | rw [if_neg hb] at h | (simp only [hb, hT, reduceIte] at h) | skip
    refine AWp.skip ?_
    refine AWp.seq ?_
    refine AWp.block ?_
    refine AWp.seq ?_
    refine AWp.region ?_
    refine L.Y Y.mv ?_
    refine L.Y Y.asg ?_
    refine AList.nil ?_
    refine AWp.seq ?_
    refine AWp.region ?_
    refine L.Y (Y.fa (off := 0) Tryd.underlying26 Y3) ?_
    refine L.S (S.ld Tryd.underlying3) ?_
    refine L.Y Y.mv ?_
    refine AList.nil ?_
    refine AWp.block ?_
    refine AWp.loopI (fun kk e H => kk ≤ k7 ∧ ∃ (x3 : Int) (x4 : Int) (x5 : Int) (x8 : Int) (x9 : Int) (x13 : Int) (x14 : Int) (x18 : Int) (x19 : Int) (x23 : Int) (x24 : Int) (x133000 : Int), e = [(1, .ptr 0 0), (3, .lit (.int .i64 x3)), (4, .lit (.int .i64 x4)), (5, .lit (.int .i64 x5)), (8, .lit (.int .i64 x8)), (9, .lit (.int .i64 x9)), (13, .lit (.int .i64 x13)), (14, .lit (.int .i64 x14)), (18, .lit (.int .i64 x18)), (19, .lit (.int .i64 x19)), (23, .lit (.int .i64 x23)), (24, .lit (.int .i64 x24))] ∧ H = [.bx 26 [.lit (.int .i64 x133000), .row 1 l0_1.length false (ints .i64 l0_1)]] ∧ impl_Order_twoTwo.l3 kk x3 x4 x5 x8 x9 x13 x14 x18 x19 x23 x24 x133000 l0_1 = some r) (k := k7)
     ⟨_, _, ⟨Nat.le_refl _, _, _, _, _, _, _, _, _, _, _, _, _, rfl, rfl, h⟩, IsPart.at [] [0] base0 (H.c .nil) (E.c (E.c (E.c (E.c (E.c (E.c (E.c (E.c (E.c (E.c (E.c (E.c .nil))))))))))))⟩ ?_
    clear h
    rintro k10 e H ⟨hk11, x3, x4, x5, x8, x9, x13, x14, x18, x19, x23, x24, x133000, rfl, rfl, h⟩
    cases k10 with
    | zero => exact absurd h (by simp [impl_Order_twoTwo.l3])
    | succ k10 =>
    simp only [impl_Order_twoTwo.l3] at h
    refine AWp.seq ?_
    refine AWp.region ?_
    refine L.Y Y.bin ?_
    refine AList.nil ?_
    refine AWp.seq ?_
    refine W.cond (fun hb => ?_) (fun hb => ?_)
    ·
     have hb12 := hb
     try simp only [hS, hE, ne_eq] at hb
     first | rw [if_pos hb12] at h | rw [if_neg (Bool.eq_false_iff.1 hb12)] at h | rw [if_pos hb] at h | rw [if_neg hb] at h | (simp only [hb, hT, reduceIte] at h) | skip
     refine AWp.skip ?_
     refine AWp.seq ?_
     refine AWp.block ?_
     refine AWp.seq ?_
     refine AWp.region ?_
     refine L.Y Y.mv ?_
     refine L.Y Y.asg ?_
     refine AList.nil ?_
     refine AWp.seq ?_
     refine AWp.region ?_
     refine L.S (S.ldN Tryd.underlying26 Y26) ?_
     refine L.Y Y.mv ?_
     refine L.Y Y.mv ?_
     replace h := Option.bind_eq_some_iff.1 h
     obtain ⟨t133, hc13, h⟩ := h
     refine L.C (C.callE (l := true) [] Tryd.func104 (impl_Order_better.ac _ _ _ _ _ hc13) .nil ?_)
     refine L.Y Y.mv ?_
     refine L.Gc (fun hb => ?_) (fun hb => ?_)
     ·
      have hb14 := hb
      try simp only [hS, hE, ne_eq] at hb
      first | rw [if_pos hb14] at h | rw [if_neg (Bool.eq_false_iff.1 hb14)] at h | rw [if_pos hb] at h | rw [if_neg hb] at h | (simp only [hb, hT, reduceIte] at h) | skip
      refine L.Gs hb14 (S.ldN Tryd.underlying26 Y26) ?_
      refine L.Gy hb14 Y.mv ?_
      refine L.Gy hb14 Y.mv ?_
      replace h := Option.bind_eq_some_iff.1 h
      obtain ⟨t134, hc15, h⟩ := h
      refine L.GC hb14 (C.callE (l := true) [] Tryd.func104 (impl_Order_better.ac _ _ _ _ _ hc15) .nil ?_)
      refine L.Y (Y.pk (c := true) hb14) ?_
      refine L.Y Y.mv ?_
      refine L.Gc (fun hb => ?_) (fun hb => ?_)
      ·
       have hb16 := hb
       try simp only [hS, hE, ne_eq] at hb
       first | rw [if_pos hb16] at h | rw [if_neg (Bool.eq_false_iff.1 hb16)] at h | rw [if_pos hb] at h | rw [if_neg hb] at h | (simp only [hb, hT, reduceIte] at h) | skip
       refine L.Gs hb16 (S.ldN Tryd.underlying26 Y26) ?_
       refine L.Gy hb16 Y.mv ?_
       refine L.Gy hb16 Y.mv ?_
       replace h := Option.bind_eq_some_iff.1 h
       obtain ⟨t135, hc17, h⟩ := h
       refine L.GC hb16 (C.callE (l := true) [] Tryd.func104 (impl_Order_better.ac _ _ _ _ _ hc17) .nil ?_)
       refine L.Gy hb16 Y.nt ?_
       refine L.Y (Y.pk (c := true) hb16) ?_
       refine L.Y Y.mv ?_
       refine L.Gc (fun hb => ?_) (fun hb => ?_)
       ·
        have hb18 := hb
        try simp only [hS, hE, ne_eq] at hb
        first | rw [if_pos hb18] at h | rw [if_neg (Bool.eq_false_iff.1 hb18)] at h | rw [if_pos hb] at h | rw [if_neg hb] at h | (simp only [hb, hT, reduceIte] at h) | skip
        refine L.Gs hb18 (S.ldN Tryd.underlying26 Y26) ?_
        refine L.Gy hb18 Y.mv ?_
        refine L.Gy hb18 Y.mv ?_
        replace h := Option.bind_eq_some_iff.1 h
        obtain ⟨t136, hc19, h⟩ := h
        refine L.GC hb18 (C.callE (l := true) [] Tryd.func104 (impl_Order_better.ac _ _ _ _ _ hc19) .nil ?_)
        refine L.Gy hb18 Y.nt ?_
        refine L.Y (Y.pk (c := true) hb18) ?_
        refine AList.nil ?_
        refine W.cond (fun hb => ?_) (fun hb => ?_)
        ·
         have hb20 := hb
         try simp only [hS, hE, ne_eq] at hb
         first | rw [if_pos hb20] at h | rw [if_neg (Bool.eq_false_iff.1 hb20)] at h | rw [if_pos hb] at h | rw [if_neg hb] at h | (simp only [hb, hT, reduceIte] at h) | skip
         repeat (first | (rw [iN] at h; obtain ⟨_, h⟩ := h) | (rw [iP] at h; obtain ⟨_, h⟩ := h) | (simp only [bS] at h))
         refine AWp.seq ?_
         refine W.kp [1, 3, 4, 5, 6, 8, 9, 13, 14, 18, 19, 23, 24, 25, 50] ?_
         refine AWp.region ?_
         refine L.Y Y.mv ?_
         refine L.Y Y.mv ?_
         refine L.Y Y.mv ?_
         refine L.Y Y.mv ?_
         refine L.M (M.bs Tryd.underlying22 Y3) ?_
         refine L.Y Y.asg ?_
         refine AList.nil ?_
         obtain rfl := Option.some.inj h
         refine AWp.ret ?_
         exact ⟨.inr rfl, [(2, _)], _, .inr ⟨by first | assumption | simp, rfl, rfl⟩, IsPart.at [] [1] base0 (H.c .nil) (E.c .nil)⟩
        ·
         have hb20 := hb
         try simp only [hS, hE, ne_eq] at hb
         first | rw [if_pos hb20] at h | rw [if_neg (Bool.eq_false_iff.1 hb20)] at h | rw [if_pos hb] at h | rw [if_neg hb] at h | (simp only [hb, hT, reduceIte] at h) | skip
         refine AWp.skip ?_
         refine W.kp [1, 3, 4, 5, 6, 8, 9, 13, 14, 18, 19, 23, 24, 25, 50] ?_
         refine AWp.region ?_
         refine L.Y Y.bin ?_
         refine L.Y Y.mv ?_
         refine AList.nil ?_
         exact ⟨k10, by omega, _, _, ⟨by omega, _, _, _, _, _, _, _, _, _, _, _, _, rfl, rfl, h⟩, IsPart.at [] [0] base0 (H.c .nil) (E.c (E.c (E.c (E.c (E.c (E.c (E.c (E.c (E.c (E.c (E.c (E.c .nil))))))))))))⟩
       ·
        have hb18 := hb
        try simp only [hS, hE, ne_eq] at hb
        first | rw [if_pos hb18] at h | rw [if_neg (Bool.eq_false_iff.1 hb18)] at h | rw [if_pos hb] at h | rw [if_neg hb] at h | (simp only [hb, hT, reduceIte] at h) | skip
        refine L.Gn hb18 ?_
        refine L.Gn hb18 ?_
        refine L.Gn hb18 ?_
        refine L.Gn hb18 ?_
        refine L.Gn hb18 ?_
        refine L.Y (Y.pk (c := false) hb18) ?_
        refine AList.nil ?_
        refine W.cond (fun hb => ?_) (fun hb => ?_)
        ·
         first | exact Bool.false_ne_true ((Eq.symm (by assumption)).trans hb) | exact Bool.false_ne_true (hb.symm.trans (by assumption)) | exact DD hb
        have hb21 := hb
        refine AWp.skip ?_
        refine W.kp [1, 3, 4, 5, 6, 8, 9, 13, 14, 18, 19, 23, 24, 25, 50] ?_
        refine AWp.region ?_
        refine L.Y Y.bin ?_
        refine L.Y Y.mv ?_
        refine AList.nil ?_
        exact ⟨k10, by omega, _, _, ⟨by omega, _, _, _, _, _, _, _, _, _, _, _, _, rfl, rfl, h⟩, IsPart.at [] [0] base0 (H.c .nil) (E.c (E.c (E.c (E.c (E.c (E.c (E.c (E.c (E.c (E.c (E.c (E.c .nil))))))))))))⟩
      ·
       have hb16 := hb
       try simp only [hS, hE, ne_eq] at hb
       first | rw [if_pos hb16] at h | rw [if_neg (Bool.eq_false_iff.1 hb16)] at h | rw [if_pos hb] at h | rw [if_neg hb] at h | (simp only [hb, hT, reduceIte] at h) | skip
       refine L.Gn hb16 ?_
       refine L.Gn hb16 ?_
       refine L.Gn hb16 ?_
       refine L.Gn hb16 ?_
       refine L.Gn hb16 ?_
       refine L.Y (Y.pk (c := false) hb16) ?_
       refine L.Y Y.mv ?_
       refine L.Gc (fun hb => ?_) (fun hb => ?_)
       ·
        first | exact Bool.false_ne_true ((Eq.symm (by assumption)).trans hb) | exact Bool.false_ne_true (hb.symm.trans (by assumption)) | exact DD hb
       have hb22 := hb
       refine L.Gn hb22 ?_
       refine L.Gn hb22 ?_
       refine L.Gn hb22 ?_
       refine L.Gn hb22 ?_
       refine L.Gn hb22 ?_
       refine L.Y (Y.pk (c := false) hb22) ?_
       refine AList.nil ?_
       refine W.cond (fun hb => ?_) (fun hb => ?_)
       ·
        first | exact Bool.false_ne_true ((Eq.symm (by assumption)).trans hb) | exact Bool.false_ne_true (hb.symm.trans (by assumption)) | exact DD hb
       have hb23 := hb
       refine AWp.skip ?_
       refine W.kp [1, 3, 4, 5, 6, 8, 9, 13, 14, 18, 19, 23, 24, 25, 50] ?_
       refine AWp.region ?_
       refine L.Y Y.bin ?_
       refine L.Y Y.mv ?_
       refine AList.nil ?_
       exact ⟨k10, by omega, _, _, ⟨by omega, _, _, _, _, _, _, _, _, _, _, _, _, rfl, rfl, h⟩, IsPart.at [] [0] base0 (H.c .nil) (E.c (E.c (E.c (E.c (E.c (E.c (E.c (E.c (E.c (E.c (E.c (E.c .nil))))))))))))⟩
     ·
      have hb14 := hb
      try simp only [hS, hE, ne_eq] at hb
      first | rw [if_pos hb14] at h | rw [if_neg (Bool.eq_false_iff.1 hb14)] at h | rw [if_pos hb] at h | rw [if_neg hb] at h | (simp only [hb, hT, reduceIte] at h) | skip
      refine L.Gn hb14 ?_
      refine L.Gn hb14 ?_
      refine L.Gn hb14 ?_
      refine L.Gn hb14 ?_
      refine L.Y (Y.pk (c := false) hb14) ?_
      refine L.Y Y.mv ?_
      refine L.Gc (fun hb => ?_) (fun hb => ?_)
      ·
       first | exact Bool.false_ne_true ((Eq.symm (by assumption)).trans hb) | exact Bool.false_ne_true (hb.symm.trans (by assumption)) | exact DD hb
      have hb24 := hb
      refine L.Gn hb24 ?_
      refine L.Gn hb24 ?_
      refine L.Gn hb24 ?_
      refine L.Gn hb24 ?_
      refine L.Gn hb24 ?_
      refine L.Y (Y.pk (c := false) hb24) ?_
      refine L.Y Y.mv ?_
      refine L.Gc (fun hb => ?_) (fun hb => ?_)
      ·
       first | exact Bool.false_ne_true ((Eq.symm (by assumption)).trans hb) | exact Bool.false_ne_true (hb.symm.trans (by assumption)) | exact DD hb
      have hb25 := hb
      refine L.Gn hb25 ?_
      refine L.Gn hb25 ?_
      refine L.Gn hb25 ?_
      refine L.Gn hb25 ?_
      refine L.Gn hb25 ?_
      refine L.Y (Y.pk (c := false) hb25) ?_
      refine AList.nil ?_
      refine W.cond (fun hb => ?_) (fun hb => ?_)
      ·
       first | exact Bool.false_ne_true ((Eq.symm (by assumption)).trans hb) | exact Bool.false_ne_true (hb.symm.trans (by assumption)) | exact DD hb
      have hb26 := hb
      refine AWp.skip ?_
      refine W.kp [1, 3, 4, 5, 6, 8, 9, 13, 14, 18, 19, 23, 24, 25, 50] ?_
      refine AWp.region ?_
      refine L.Y Y.bin ?_
      refine L.Y Y.mv ?_
      refine AList.nil ?_
      exact ⟨k10, by omega, _, _, ⟨by omega, _, _, _, _, _, _, _, _, _, _, _, _, rfl, rfl, h⟩, IsPart.at [] [0] base0 (H.c .nil) (E.c (E.c (E.c (E.c (E.c (E.c (E.c (E.c (E.c (E.c (E.c (E.c .nil))))))))))))⟩
    ·
     have hb12 := hb
     try simp only [hS, hE, ne_eq] at hb
     first | rw [if_pos hb12] at h | rw [if_neg (Bool.eq_false_iff.1 hb12)] at h | rw [if_pos hb] at h | rw [if_neg hb] at h | (simp only [hb, hT, reduceIte] at h) | skip
     refine AWp.exit ?_
     refine AWp.region ?_
     refine L.Y Y.bin ?_
     refine L.Y Y.mv ?_
     refine AList.nil ?_
     exact ⟨k10, by omega, _, _, ⟨by omega, _, _, _, _, _, _, _, _, _, rfl, rfl, h⟩, IsPart.at [] [0] base0 (H.c .nil) (E.c (E.c (E.c (E.c (E.c (E.c (E.c (E.c (E.c .nil)))))))))⟩
   ·
    have hb9 := hb
    try simp only [hS, hE, ne_eq] at hb
    first | rw [if_pos hb9] at h | rw [if_neg (Bool.eq_false_iff.1 hb9)] at h | rw [if_pos hb] at h | rw [if_neg hb] at h | (simp only [hb, hT, reduceIte] at h) | skip
    refine AWp.exit ?_
    refine AWp.region ?_
    refine L.Y Y.bin ?_
    refine L.Y Y.mv ?_
    refine AList.nil ?_
    exact ⟨k7, by omega, _, _, ⟨by omega, _, _, _, _, _, _, rfl, rfl, h⟩, IsPart.at [] [0] base0 (H.c .nil) (E.c (E.c (E.c (E.c (E.c (E.c .nil))))))⟩
  ·
   have hb6 := hb
   try simp only [hS, hE, ne_eq] at hb
   first | rw [if_pos hb6] at h | rw [if_neg (Bool.eq_false_iff.1 hb6)] at h | rw [if_pos hb] at h | rw [if_neg hb] at h | (simp only [hb, hT, reduceIte] at h) | skip
   refine AWp.exit ?_
   refine AWp.region ?_
   refine L.Y Y.bin ?_
   refine L.Y Y.mv ?_
   refine AList.nil ?_
   exact ⟨k4, by omega, _, _, ⟨by omega, _, _, _, rfl, rfl, h⟩, IsPart.at [] [0] base0 (H.c .nil) (E.c (E.c (E.c .nil)))⟩
 ·
  have hb3 := hb
  try simp only [hS, hE, ne_eq] at hb
  first | rw [if_pos hb3] at h | rw [if_neg (Bool.eq_false_iff.1 hb3)] at h | rw [if_pos hb] at h | rw [if_neg hb] at h | (simp only [hb, hT, reduceIte] at h) | skip
  refine AWp.exit ?_
  refine AWp.seq ?_
  refine AWp.region ?_
  refine L.Y Y.asg ?_
  refine AList.nil ?_
  obtain rfl := Option.some.inj h
  refine AWp.ret ?_
  exact ⟨.inr rfl, [(2, _)], _, .inl ⟨rfl, rfl, rfl⟩, IsPart.at [] [] base0 .nil (E.c .nil)⟩

/-! ### impl_isInterval: function 144 -/
def impl_isInterval.f (k : Nat) (a0_0 : Int) (l0_1 : List Int) : Option (Bool) := (impl_IsOrder.f k a0_0 l0_1).bind fun t141 => (if t141 = true then ((impl_Order_twoTwo.f k a0_0 l0_1).bind fun t142 => (if t142 = [] then (some true) else (some false))) else (some false))
set_option maxRecDepth 100000 in
set_option maxHeartbeats 20000000 in
theorem impl_isInterval.ac (k : Nat) (a0_0 : Int) (l0_1 : List Int) (r : Bool) (h : impl_isInterval.f k a0_0 l0_1 = some r) :
  ACalls Tryd.prog 144 [.agg [.lit (.int .i64 a0_0), .row 1 l0_1.length false (ints .i64 l0_1)]] [] (fun v H' => v = .lit (.bool r) ∧ H' = []) := by
 refine ACalls.ofP [2] Tryd.func144 rfl (by exact Nat.le_of_ble_eq_true rfl) rfl (by decide) ?_
 simp only [Tryd.ntmps144, env0, impl_isInterval.f] at h ⊢
 refine AWp.seq ?_
 refine AWp.region ?_
 refine L.M M.bx ?_
 refine L.Y Y.asg ?_
 refine AList.nil ?_
 refine AWp.seq ?_
 refine AWp.region ?_
 refine L.S (S.ldN Tryd.underlying26 Y26) ?_
 replace h := Option.bind_eq_some_iff.1 h
 obtain ⟨t141, hc1, h⟩ := h
 refine L.C (C.callE (l := true) [] Tryd.func33 (impl_IsOrder.ac _ _ _ _ hc1) .nil ?_)
 refine L.Y Y.mv ?_
 refine L.Gc (fun hb => ?_) (fun hb => ?_)
 ·
  have hb2 := hb
  try simp only [hS, hE, ne_eq] at hb
  first | rw [if_pos hb2] at h | rw [if_neg (Bool.eq_false_iff.1 hb2)] at h | rw [if_pos hb] at h | rw [if_neg hb] at h | (simp only [hb, hT, reduceIte] at h) | skip
  refine L.Gs hb2 (S.ldN Tryd.underlying26 Y26) ?_
  replace h := Option.bind_eq_some_iff.1 h
  obtain ⟨t142, hc3, h⟩ := h
  rcases Classical.em (t142 = []) with hq | hq
  ·
   have hq0 : t142.length = 0 := by rw [hq]; rfl
   have hq1 : (ints .i64 t142) = [] := by rw [hq]; rfl
   refine L.GC hb2 (C.callE (l := true) [] Tryd.func187 ((impl_Order_twoTwo.acq _ _ _ _ hc3).conseq (fun _ _ q => q.elim (fun z => z.2) (fun z => absurd hq z.1))) .nil ?_)
   refine L.Gy hb2 (Y.nq Tryd.underlying22) ?_
   rw [if_pos hq] at h
   refine L.Y (Y.pk (c := true) hb2) ?_
   refine L.Y Y.asg ?_
   refine AList.nil ?_
   obtain rfl := Option.some.inj h
   refine AWp.ret ?_
   exact ⟨.inr rfl, [(2, _)], _, ⟨rfl, rfl⟩, IsPart.at [] [] base0 .nil (E.c .nil)⟩
  ·
   skip
   refine L.GC hb2 (C.callE (l := true) [] Tryd.func187 ((impl_Order_twoTwo.acq _ _ _ _ hc3).conseq (fun _ _ q => q.elim (fun z => absurd z.1 hq) (fun z => z.2))) .nil ?_)
   refine L.Gy hb2 (Y.nq Tryd.underlying22) ?_
   rw [if_neg hq] at h
   refine L.Y (Y.pk (c := true) hb2) ?_
   refine L.Y Y.asg ?_
   refine AList.nil ?_
   obtain rfl := Option.some.inj h
   refine AWp.ret ?_
   exact ⟨.inr rfl, [(2, _)], _, ⟨rfl, rfl⟩, IsPart.at [] [] base0 .nil (E.c .nil)⟩
 ·
  have hb2 := hb
  try simp only [hS, hE, ne_eq] at hb
  first | rw [if_pos hb2] at h | rw [if_neg (Bool.eq_false_iff.1 hb2)] at h | rw [if_pos hb] at h | rw [if_neg hb] at h | (simp only [hb, hT, reduceIte] at h) | skip
  refine L.Gn hb2 ?_
  refine L.Gn hb2 ?_
  refine L.Gn hb2 ?_
  refine L.Y (Y.pk (c := false) hb2) ?_
  refine L.Y Y.asg ?_
  refine AList.nil ?_
  obtain rfl := Option.some.inj h
  refine AWp.ret ?_
  exact ⟨.inr rfl, [(2, _)], _, ⟨rfl, rfl⟩, IsPart.at [] [] base0 .nil (E.c .nil)⟩

end Go.Proofs.YtakabmokpknknaaDoor.PFnTablesOfRelations
