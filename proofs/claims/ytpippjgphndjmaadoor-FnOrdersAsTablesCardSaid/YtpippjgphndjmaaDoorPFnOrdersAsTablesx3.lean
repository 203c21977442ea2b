-- Written by a program of this session's (wip/myprint2): the functions by the kit's print, the walks by awgen.py. Lean checks it.
import Derived.Test.YtpippjgphndjmaaDoorPFnOrdersAsTablesx0
import Derived.Test.YtpippjgphndjmaaDoorPFnOrdersAsTablesx2
namespace Go.Proofs.YtpippjgphndjmaaDoor.PFnOrdersAsTables
open Go.RowKit Go.Proofs.YtpippjgphndjmaaDoorW.PrintWords Go.Proofs.YtpippjgphndjmaaDoorW.PrintLast Go.Proofs.YtpippjgphndjmaaDoorW.PrintMore Go.Proofs.YtpippjgphndjmaaDoorM Go.Proofs.YtpippjgphndjmaaDoorA Go.Proofs.YtpippjgphndjmaaDoorT
attribute [local go_sem] max2_int min2_int max_two min_two max_three min_three max_four min_four   -- for this text's walks alone
set_option linter.unusedVariables false
set_option linter.unusedSimpArgs false

/-! ### bits_TrailingZeros64: function 145 -/
def bits_TrailingZeros64.f (a0 : Int) : Option (Int) := if 0 ≤ a0 ∧ a0 < 18446744073709551616 then some ((Lib.ctz 64 a0.toNat : Nat) : Int) else none
def bits_TrailingZeros64.ren : Go.Shelf.Ren := ⟨fun | 29 => 145 | n => n, fun | 22 => 80 | 3 => 3 | 4 => 4 | 25 => 108 | 54 => 132 | 0 => 0 | 5 => 5 | n => n, fun | 1 => 1 | n => n⟩
theorem bits_TrailingZeros64.lays : Go.Proofs.Lays7.n29 Tryd.prog bits_TrailingZeros64.ren where
 mixed := by kernel_rfl
 f29 := Tryd.func145.trans (congrArg some (by kernel_rfl))
 t0 := Tryd.underlying0
 a0 := Tryd.isAgg0
 z0 := Tryd.sizeOf0
 v0 := Tryd.zeroValue0
 i0 := by kernel_rfl
 t3 := Tryd.underlying3
 a3 := Tryd.isAgg3
 z3 := Tryd.sizeOf3
 v3 := Tryd.zeroValue3
 i3 := by kernel_rfl
 t4 := Tryd.underlying4
 a4 := Tryd.isAgg4
 z4 := Tryd.sizeOf4
 v4 := Tryd.zeroValue4
 i4 := by kernel_rfl
 t5 := Tryd.underlying5
 a5 := Tryd.isAgg5
 z5 := Tryd.sizeOf5
 v5 := Tryd.zeroValue5
 i5 := by kernel_rfl
 t22 := Tryd.underlying80
 a22 := Tryd.isAgg80
 z22 := Tryd.sizeOf80
 v22 := Tryd.zeroValue80
 i22 := by kernel_rfl
 t25 := Tryd.underlying108
 a25 := Tryd.isAgg108
 z25 := Tryd.sizeOf108
 v25 := Tryd.zeroValue108
 i25 := by kernel_rfl
 t54 := Tryd.underlying132
 a54 := Tryd.isAgg132
 z54 := Tryd.sizeOf132
 g1 := by kernel_rfl
theorem bits_TrailingZeros64.calls (a0 : Int) (r : Int) (w : World) (hT : TabIn w) (h : bits_TrailingZeros64.f a0 = some r) :
  Calls Tryd.prog 145 #[.int .u64 a0] w fun e w' => e = .returned (.int .i64 r) ∧ Drawn0 w w' := by
 unfold bits_TrailingZeros64.f at h
 by_cases hb : 0 ≤ a0 ∧ a0 < 18446744073709551616
 ·
  rw [if_pos hb] at h
  injection h with h
  subst h
  obtain ⟨n, rfl⟩ := Int.eq_ofNat_of_zero_le hb.1
  refine (Any7.bits_TrailingZeros64 bits_TrailingZeros64.lays n (by omega) w (fun _ => hT)).mono ?_
  rintro e w' ⟨rfl, rfl⟩
  exact ⟨by simp, Drawn0.refl _⟩
 ·
  rw [if_neg hb] at h
  cases h
theorem bits_TrailingZeros64.ac (a0 : Int) (r : Int) (h : bits_TrailingZeros64.f a0 = some r) : ACalls Tryd.prog 145 [.lit (.int .u64 a0)] [] (fun v H' => v = .lit (.int .i64 r) ∧ H' = []) := by
 unfold bits_TrailingZeros64.f at h
 by_cases hb : 0 ≤ a0 ∧ a0 < 18446744073709551616
 ·
  rw [if_pos hb] at h
  injection h with h
  subst h
  obtain ⟨n, rfl⟩ := Int.eq_ofNat_of_zero_le hb.1
  refine ACalls.same (vs := [.int .u64 (n : Int)]) fun R w ht => ?_
  refine (Any7.bits_TrailingZeros64 bits_TrailingZeros64.lays n (by omega) w (fun _ => tabIn_of ht)).mono ?_
  rintro e w' ⟨rfl, rfl⟩
  exact ⟨by simp, rfl⟩
 ·
  rw [if_neg hb] at h
  cases h

/-! ### bits_TrailingZeros: function 129 -/
def bits_TrailingZeros.f (a0 : Int) : Option (Int) := (bits_TrailingZeros64.f a0).bind fun t144 => (some t144)
set_option maxRecDepth 100000 in
set_option maxHeartbeats 20000000 in
theorem bits_TrailingZeros.ac (a0 : Int) (r : Int) (h : bits_TrailingZeros.f a0 = some r) :
  ACalls Tryd.prog 129 [.lit (.int .u64 a0)] [] (fun v H' => v = .lit (.int .i64 r) ∧ H' = []) := by
 refine ACalls.ofP [2] Tryd.func129 rfl (by exact Nat.le_of_ble_eq_true rfl) rfl (by decide) ?_
 simp only [Tryd.ntmps129, env0, bits_TrailingZeros.f] at h ⊢
 refine AWp.seq ?_
 refine AWp.region ?_
 refine L.Y Y.asg ?_
 refine AList.nil ?_
 refine AWp.seq ?_
 refine W.cond (fun hb => ?_) (fun hb => ?_)
 ·
  first | exact Bool.false_ne_true ((Eq.symm (by assumption)).trans hb) | exact Bool.false_ne_true (hb.symm.trans (by assumption)) | exact DD hb
 refine AWp.skip ?_
 refine AWp.seq ?_
 refine AWp.region ?_
 refine L.Y Y.mv ?_
 replace h := Option.bind_eq_some_iff.1 h
 obtain ⟨t144, hc2, h⟩ := h
 refine L.C (C.callE (l := true) [] Tryd.func145 (bits_TrailingZeros64.ac _ _ hc2) .nil ?_)
 refine L.Y Y.asg ?_
 refine AList.nil ?_
 obtain rfl := Option.some.inj h
 refine AWp.ret ?_
 exact ⟨.inr rfl, [(2, _)], _, ⟨rfl, rfl⟩, IsPart.at [] [] base0 .nil (E.c .nil)⟩

/-! ### impl_members: function 89 -/
def impl_members.l0 : Nat → Int → List Int → Option (List Int)
 | 0, _, _ => none
 | k + 1, x0, x3 => if x0 = 0 then (some x3) else ((bits_TrailingZeros.f (IntKind.u64.wrap (x0))).bind fun t148 => (if x3.length < 17592186044416 then (impl_members.l0 k (Go.bits .and .i64 x0 (wrap64 (x0 - 1))) (x3 ++ [t148])) else (none)))
def impl_members.f (k : Nat) (a0 : Int) : Option (List Int) := impl_members.l0 k a0 (([] : List Int))
theorem impl_members.mono_l : ∀ k, (∀ y0 y1, LeO (impl_members.l0 k y0 y1) (impl_members.l0 (k + 1) y0 y1))
 | 0 => fun _ _ r h => by simp [impl_members.l0] at h
 | k + 1 => by
  have ih0 := impl_members.mono_l k
  ·
   intro y0 y1
   unfold impl_members.l0
   repeat' first
   | (with_reducible exact ih0 _ _)
   | (with_reducible exact LeO.refl _)
   | (with_reducible exact LeO.none _)
   | (with_reducible refine LeO.ite ?_ ?_)
   | (with_reducible refine LeO.bind ?_ (fun _ => ?_))
   | exact ih0 _ _
   | exact LeO.none _
   | refine LeO.ite ?_ ?_
   | refine LeO.bind ?_ (fun _ => ?_)
theorem impl_members.mono : ∀ a0 k, LeO (impl_members.f k a0) (impl_members.f (k + 1) a0) := by
 intro a0 k
 have ih0 := impl_members.mono_l k
 unfold impl_members.f
 repeat' first
   | (with_reducible exact ih0 _ _)
   | (with_reducible exact LeO.refl _)
   | (with_reducible exact LeO.none _)
   | (with_reducible refine LeO.ite ?_ ?_)
   | (with_reducible refine LeO.bind ?_ (fun _ => ?_))
   | exact ih0 _ _
   | exact LeO.none _
   | refine LeO.ite ?_ ?_
   | refine LeO.bind ?_ (fun _ => ?_)
set_option maxRecDepth 100000 in
set_option maxHeartbeats 20000000 in
theorem impl_members.ac (k : Nat) (a0 : Int) (r : List Int) (h : impl_members.f k a0 = some r) :
  ACalls Tryd.prog 89 [.lit (.int .i64 a0)] [] (fun v H' => v = .own 0 r.length ∧ H' = [.sl 3 1 r.length false (ints .i64 r)]) := by
 refine ACalls.ofP [2] Tryd.func89 rfl (by exact Nat.le_of_ble_eq_true rfl) rfl (by decide) ?_
 simp only [Tryd.ntmps89, env0, impl_members.f] at h ⊢
 repeat (first | (rw [iN] at h; obtain ⟨_, h⟩ := h) | (rw [iP] at h; obtain ⟨_, h⟩ := h) | (simp only [bS] at h))
 refine AWp.seq ?_
 refine AWp.region ?_
 refine L.Y Y.asg ?_
 refine AList.nil ?_
 refine AWp.seq ?_
 refine AWp.region ?_
 refine L.M (M.bs Tryd.underlying22 Y3) ?_
 refine L.Y Y.asg ?_
 refine AList.nil ?_
 refine AWp.seq ?_
 refine AWp.block ?_
 refine AWp.loopI (fun kk e H => kk ≤ k ∧ ∃ (x0 : Int) (x3 : List Int), e = [(0, .lit (.int .i64 x0)), (2, .lit (.slice none 0 0)), (3, .own 0 x3.length)] ∧ H = [.sl 3 1 x3.length true (ints .i64 x3)] ∧ impl_members.l0 kk x0 x3 = some r) (k := k)
  ⟨_, _, ⟨Nat.le_refl _, _, _, rfl, rfl, h⟩, IsPart.at [] [0] base0 (H.c .nil) (E.c (E.c (E.c .nil)))⟩ ?_
 clear h
 rintro k1 e H ⟨hk2, x0, x3, rfl, rfl, h⟩
 cases k1 with
 | zero => exact absurd h (by simp [impl_members.l0])
 | succ k1 =>
 simp only [impl_members.l0] at h
 refine AWp.seq ?_
 refine AWp.seq ?_
 refine AWp.region ?_
 refine L.Y Y.mv ?_
 refine L.Y Y.bin ?_
 refine AList.nil ?_
 refine W.cond (fun hb => ?_) (fun hb => ?_)
 ·
  have hb3 := hb
  try simp only [hS, hE, ne_eq] at hb
  first | rw [if_pos hb3] at h | rw [if_neg (Bool.eq_false_iff.1 hb3)] at h | rw [if_pos hb] at h | rw [if_neg hb] at h | (simp only [hb, hT, reduceIte] at h) | skip
  refine AWp.skip ?_
  refine AWp.seq ?_
  refine AWp.block ?_
  refine AWp.region ?_
  refine L.Y Y.mv ?_
  refine L.Y Y.mv ?_
  refine L.Y (Y.cv Tryd.underlying3 Tryd.underlying108) ?_
  replace h := Option.bind_eq_some_iff.1 h
  obtain ⟨t148, hc4, h⟩ := h
  repeat (first | (rw [iN] at h; obtain ⟨_, h⟩ := h) | (rw [iP] at h; obtain ⟨_, h⟩ := h) | (simp only [bS] at h))
  refine L.C (C.callE (l := true) [] Tryd.func129 (bits_TrailingZeros.ac _ _ hc4) .nil ?_)
  refine L.M (M.bs Tryd.underlying22 Y3) ?_
  refine L.S (S.ap (nn' := true) Tryd.underlying22 Y3) ?_
  refine L.Y Y.asg ?_
  refine AList.nil ?_
  refine W.kp [0, 2, 3, 6] ?_
  refine AWp.region ?_
  refine L.Y Y.mv ?_
  refine L.Y Y.mv ?_
  refine L.Y Y.bin ?_
  refine L.Y Y.bin ?_
  refine L.Y Y.asg ?_
  refine AList.nil ?_
  exact ⟨k1, by omega, _, _, ⟨by omega, _, _, rfl, rfl, h⟩, IsPart.at [] [0] base0 (H.c .nil) (E.c (E.c (E.c .nil)))⟩
 ·
  have hb3 := hb
  try simp only [hS, hE, ne_eq] at hb
  first | rw [if_pos hb3] at h | rw [if_neg (Bool.eq_false_iff.1 hb3)] at h | rw [if_pos hb] at h | rw [if_neg hb] at h | (simp only [hb, hT, reduceIte] at h) | skip
  refine AWp.exit ?_
  refine AWp.seq ?_
  refine AWp.region ?_
  refine L.Y Y.mv ?_
  refine L.Y Y.asg ?_
  refine AList.nil ?_
  obtain rfl := Option.some.inj h
  refine AWp.ret ?_
  exact ⟨.inr rfl, [(2, _)], _, ⟨rfl, rfl⟩, IsPart.at [] [0] base0 (H.c .nil) (E.c .nil)⟩

/-! ### impl_IsOrder: function 29 -/
mutual
def impl_IsOrder.l0 : Nat → List Int → Int → Int → Int → List Int → Option (Bool)
 | 0, _, _, _, _, _ => none
 | k + 1, x11, x12, x13, x153000, x153001 => if x13 < x12 then (if 0 ≤ x13 then (if x13 < (x11.length : Int) then ((impl_Order_better.f x153000 x153001 x13 x13).bind fun t155 => (if t155 = true then (some false) else ((impl_members.f k (rd x11 x13)).bind fun t156 => (impl_IsOrder.l1 k (rd x11 x13) x11 x12 x13 t156 (t156.length : Int) 0 x153000 x153001)))) else (none)) else (none)) else (some true)
def impl_IsOrder.l1 : Nat → Int → List Int → Int → Int → List Int → Int → Int → Int → List Int → Option (Bool)
 | 0, _, _, _, _, _, _, _, _, _ => none
 | k + 1, x4, x11, x12, x13, x23, x24, x25, x153000, x153001 => if x25 < x24 then (if 0 ≤ x25 then (if x25 < (x23.length : Int) then (if 0 ≤ (rd x23 x25) then (if (rd x23 x25) < (x153001.length : Int) then (if (Go.bits .andNot .i64 (rd x153001 (rd x23 x25)) x4) = 0 then (impl_IsOrder.l1 k x4 x11 x12 x13 x23 x24 (wrap64 (x25 + 1)) x153000 x153001) else (some false)) else (none)) else (none)) else (none)) else (none)) else (impl_IsOrder.l0 k x11 x12 (wrap64 (x13 + 1)) x153000 x153001)
end
def impl_IsOrder.f (k : Nat) (a0_0 : Int) (l0_1 : List Int) : Option (Bool) := (impl_IsRelation.f k a0_0 l0_1).bind fun t153 => (if t153 = true then (impl_IsOrder.l0 k l0_1 (l0_1.length : Int) 0 a0_0 l0_1) else (some false))
set_option maxRecDepth 100000 in
set_option maxHeartbeats 20000000 in
theorem impl_IsOrder.ac (k : Nat) (a0_0 : Int) (l0_1 : List Int) (r : Bool) (h : impl_IsOrder.f k a0_0 l0_1 = some r) :
  ACalls Tryd.prog 29 [.agg [.lit (.int .i64 a0_0), .row 1 l0_1.length false (ints .i64 l0_1)]] [] (fun v H' => v = .lit (.bool r) ∧ H' = []) := by
 refine ACalls.ofP [2] Tryd.func29 rfl (by exact Nat.le_of_ble_eq_true rfl) rfl (by decide) ?_
 simp only [Tryd.ntmps29, env0, impl_IsOrder.f] at h ⊢
 refine AWp.seq ?_
 refine AWp.region ?_
 refine L.M M.bx ?_
 refine L.Y Y.asg ?_
 refine AList.nil ?_
 refine AWp.seq ?_
 refine AWp.seq ?_
 refine AWp.region ?_
 refine L.S (S.ldN Tryd.underlying30 Y30) ?_
 replace h := Option.bind_eq_some_iff.1 h
 obtain ⟨t153, hc1, h⟩ := h
 refine L.C (C.callE (l := true) [] Tryd.func28 (impl_IsRelation.ac _ _ _ _ hc1) .nil ?_)
 refine L.Y Y.nt ?_
 refine AList.nil ?_
 refine W.cond (fun hb => ?_) (fun hb => ?_)
 ·
  have hb2 := hb
  try simp only [hS, hE, ne_eq] at hb
  first | rw [if_pos hb2] at h | rw [if_neg (Bool.eq_false_iff.1 hb2)] at h | rw [if_pos hb] at h | rw [if_neg hb] at h | (simp only [hb, hT, reduceIte] at h) | skip
  refine AWp.seq ?_
  refine AWp.region ?_
  refine L.Y Y.asg ?_
  refine AList.nil ?_
  obtain rfl := Option.some.inj h
  refine AWp.ret ?_
  exact ⟨.inr rfl, [(2, _)], _, ⟨rfl, rfl⟩, IsPart.at [] [] base0 .nil (E.c .nil)⟩
 ·
  have hb2 := hb
  try simp only [hS, hE, ne_eq] at hb
  first | rw [if_pos hb2] at h | rw [if_neg (Bool.eq_false_iff.1 hb2)] at h | rw [if_pos hb] at h | rw [if_neg hb] at h | (simp only [hb, hT, reduceIte] at h) | skip
  refine AWp.skip ?_
  refine AWp.seq ?_
  refine AWp.seq ?_
  refine AWp.region ?_
  refine L.Y (Y.fa (off := 1) Tryd.underlying30 Y22) ?_
  refine L.S (S.ld Tryd.underlying22) ?_
  refine L.Y (Y.ln Tryd.underlying22) ?_
  refine L.Y Y.mv ?_
  refine AList.nil ?_
  refine AWp.block ?_
  refine AWp.loopI (fun kk e H => kk ≤ k ∧ ∃ (x12 : Int) (x13 : Int) (x153000 : Int), e = [(1, .ptr 0 0), (11, .row 1 l0_1.length false (ints .i64 l0_1)), (12, .lit (.int .i64 x12)), (13, .lit (.int .i64 x13))] ∧ H = [.bx 30 [.lit (.int .i64 x153000), .row 1 l0_1.length false (ints .i64 l0_1)]] ∧ impl_IsOrder.l0 kk l0_1 x12 x13 x153000 l0_1 = some r) (k := k)
   ⟨_, _, ⟨Nat.le_refl _, _, _, _, rfl, rfl, h⟩, IsPart.at [] [0] base0 (H.c .nil) (E.c (E.c (E.c (E.c .nil))))⟩ ?_
  clear h
  rintro k3 e H ⟨hk4, x12, x13, x153000, rfl, rfl, h⟩
  cases k3 with
  | zero => exact absurd h (by simp [impl_IsOrder.l0])
  | succ k3 =>
  simp only [impl_IsOrder.l0] at h
  refine AWp.seq ?_
  refine AWp.region ?_
  refine L.Y Y.bin ?_
  refine AList.nil ?_
  refine AWp.seq ?_
  refine W.cond (fun hb => ?_) (fun hb => ?_)
  ·
   have hb5 := hb
   try simp only [hS, hE, ne_eq] at hb
   first | rw [if_pos hb5] at h | rw [if_neg (Bool.eq_false_iff.1 hb5)] at h | rw [if_pos hb] at h | rw [if_neg hb] at h | (simp only [hb, hT, reduceIte] at h) | skip
   repeat (first | (rw [iN] at h; obtain ⟨_, h⟩ := h) | (rw [iP] at h; obtain ⟨_, h⟩ := h) | (simp only [bS] at h))
   refine AWp.skip ?_
   refine AWp.seq ?_
   refine AWp.block ?_
   refine AWp.seq ?_
   refine AWp.region ?_
   refine L.Y Y.mv ?_
   refine L.Y (Y.ixr Tryd.underlying22 Y3) ?_
   refine L.S (S.ld Tryd.underlying3) ?_
   refine L.Y Y.asg ?_
   refine L.Y Y.asg ?_
   refine AList.nil ?_
   refine AWp.seq ?_
   refine AWp.seq ?_
   refine AWp.region ?_
   refine L.S (S.ldN Tryd.underlying30 Y30) ?_
   refine L.Y Y.mv ?_
   refine L.Y Y.mv ?_
   replace h := Option.bind_eq_some_iff.1 h
   obtain ⟨t155, hc6, h⟩ := h
   refine L.C (C.callE (l := true) [] Tryd.func73 (impl_Order_better.ac _ _ _ _ _ hc6) .nil ?_)
   refine AList.nil ?_
   refine W.cond (fun hb => ?_) (fun hb => ?_)
   ·
    have hb7 := hb
    try simp only [hS, hE, ne_eq] at hb
    first | rw [if_pos hb7] at h | rw [if_neg (Bool.eq_false_iff.1 hb7)] at h | rw [if_pos hb] at h | rw [if_neg hb] at h | (simp only [hb, hT, reduceIte] at h) | skip
    refine AWp.seq ?_
    refine W.kp [1, 3, 4, 11, 12, 13, 14, 21] ?_
    refine AWp.region ?_
    refine L.Y Y.asg ?_
    refine AList.nil ?_
    obtain rfl := Option.some.inj h
    refine AWp.ret ?_
    exact ⟨.inr rfl, [(2, _)], _, ⟨rfl, rfl⟩, IsPart.at [] [] base0 .nil (E.c .nil)⟩
   ·
    have hb7 := hb
    try simp only [hS, hE, ne_eq] at hb
    first | rw [if_pos hb7] at h | rw [if_neg (Bool.eq_false_iff.1 hb7)] at h | rw [if_pos hb] at h | rw [if_neg hb] at h | (simp only [hb, hT, reduceIte] at h) | skip
    refine AWp.skip ?_
    refine AWp.seq ?_
    refine W.kp [1, 3, 4, 11, 12, 13, 14, 21] ?_
    refine AWp.region ?_
    refine L.Y Y.mv ?_
    replace h := Option.bind_eq_some_iff.1 h
    obtain ⟨t156, hc8, h⟩ := h
    refine L.C (C.callE (l := true) [] Tryd.func89 (impl_members.ac _ _ _ hc8) .nil ?_)
    refine L.Y (Y.ln Tryd.underlying22) ?_
    refine L.Y Y.mv ?_
    refine AList.nil ?_
    refine AWp.block ?_
    refine AWp.loopI (fun kk e H => kk ≤ k3 ∧ ∃ (x4 : Int) (x12 : Int) (x13 : Int) (x23 : List Int) (x24 : Int) (x25 : Int) (x153000 : Int), e = [(1, .ptr 0 0), (4, .lit (.int .i64 x4)), (11, .row 1 l0_1.length false (ints .i64 l0_1)), (12, .lit (.int .i64 x12)), (13, .lit (.int .i64 x13)), (23, .own 1 x23.length), (24, .lit (.int .i64 x24)), (25, .lit (.int .i64 x25))] ∧ H = [.bx 30 [.lit (.int .i64 x153000), .row 1 l0_1.length false (ints .i64 l0_1)], .sl 3 1 x23.length false (ints .i64 x23)] ∧ impl_IsOrder.l1 kk x4 l0_1 x12 x13 x23 x24 x25 x153000 l0_1 = some r) (k := k3)
     ⟨_, _, ⟨Nat.le_refl _, _, _, _, _, _, _, _, rfl, rfl, h⟩, IsPart.at [] [0, 1] base0 (H.c (H.c .nil)) (E.c (E.c (E.c (E.c (E.c (E.c (E.c (E.c .nil))))))))⟩ ?_
    clear h
    rintro k9 e H ⟨hk10, x4, x12, x13, x23, x24, x25, x153000, rfl, rfl, h⟩
    cases k9 with
    | zero => exact absurd h (by simp [impl_IsOrder.l1])
    | succ k9 =>
    simp only [impl_IsOrder.l1] at h
    refine AWp.seq ?_
    refine AWp.region ?_
    refine L.Y Y.bin ?_
    refine AList.nil ?_
    refine AWp.seq ?_
    refine W.cond (fun hb => ?_) (fun hb => ?_)
    ·
     have hb11 := hb
     try simp only [hS, hE, ne_eq] at hb
     first | rw [if_pos hb11] at h | rw [if_neg (Bool.eq_false_iff.1 hb11)] at h | rw [if_pos hb] at h | rw [if_neg hb] at h | (simp only [hb, hT, reduceIte] at h) | skip
     repeat (first | (rw [iN] at h; obtain ⟨_, h⟩ := h) | (rw [iP] at h; obtain ⟨_, h⟩ := h) | (simp only [bS] at h))
     refine AWp.skip ?_
     refine AWp.seq ?_
     refine AWp.block ?_
     refine AWp.seq ?_
     refine AWp.region ?_
     refine L.Y (Y.ixo Tryd.underlying22 Y3) ?_
     refine L.S (S.ld Tryd.underlying3) ?_
     refine L.Y Y.asg ?_
     refine AList.nil ?_
     refine AWp.seq ?_
     refine AWp.region ?_
     refine L.Y (Y.fa (off := 1) Tryd.underlying30 Y22) ?_
     refine L.S (S.ld Tryd.underlying22) ?_
     refine L.Y Y.mv ?_
     refine L.Y (Y.ixr Tryd.underlying22 Y3) ?_
     refine L.S (S.ld Tryd.underlying3) ?_
     refine L.Y Y.mv ?_
     refine L.Y Y.bin ?_
     refine L.Y Y.bin ?_
     refine AList.nil ?_
     refine W.cond (fun hb => ?_) (fun hb => ?_)
     ·
      have hb12 := hb
      try simp only [hS, hE, ne_eq] at hb
      first | rw [if_pos hb12] at h | rw [if_neg (Bool.eq_false_iff.1 hb12)] at h | rw [if_pos hb] at h | rw [if_neg hb] at h | (simp only [hb, hT, reduceIte] at h) | skip
      refine AWp.seq ?_
      refine W.kp [1, 4, 6, 11, 12, 13, 23, 24, 25, 26, 36] ?_
      refine AWp.region ?_
      refine L.Y Y.asg ?_
      refine AList.nil ?_
      obtain rfl := Option.some.inj h
      refine AWp.ret ?_
      exact ⟨.inr rfl, [(2, _)], _, ⟨rfl, rfl⟩, IsPart.at [] [] base0 .nil (E.c .nil)⟩
     ·
      have hb12 := hb
      try simp only [hS, hE, ne_eq] at hb
      first | rw [if_pos hb12] at h | rw [if_neg (Bool.eq_false_iff.1 hb12)] at h | rw [if_pos hb] at h | rw [if_neg hb] at h | (simp only [hb, hT, reduceIte] at h) | skip
      refine AWp.skip ?_
      refine W.kp [1, 4, 6, 11, 12, 13, 23, 24, 25, 26, 36] ?_
      refine AWp.region ?_
      refine L.Y Y.bin ?_
      refine L.Y Y.mv ?_
      refine AList.nil ?_
      exact ⟨k9, by omega, _, _, ⟨by omega, _, _, _, _, _, _, _, rfl, rfl, h⟩, IsPart.at [] [0, 1] base0 (H.c (H.c .nil)) (E.c (E.c (E.c (E.c (E.c (E.c (E.c (E.c .nil))))))))⟩
    ·
     have hb11 := hb
     try simp only [hS, hE, ne_eq] at hb
     first | rw [if_pos hb11] at h | rw [if_neg (Bool.eq_false_iff.1 hb11)] at h | rw [if_pos hb] at h | rw [if_neg hb] at h | (simp only [hb, hT, reduceIte] at h) | skip
     refine AWp.exit ?_
     refine AWp.region ?_
     refine L.Y Y.bin ?_
     refine L.Y Y.mv ?_
     refine AList.nil ?_
     exact ⟨k9, by omega, _, _, ⟨by omega, _, _, _, rfl, rfl, h⟩, IsPart.at [] [0] base0 (H.c .nil) (E.c (E.c (E.c (E.c .nil))))⟩
  ·
   have hb5 := hb
   try simp only [hS, hE, ne_eq] at hb
   first | rw [if_pos hb5] at h | rw [if_neg (Bool.eq_false_iff.1 hb5)] at h | rw [if_pos hb] at h | rw [if_neg hb] at h | (simp only [hb, hT, reduceIte] at h) | skip
   refine AWp.exit ?_
   refine AWp.seq ?_
   refine AWp.region ?_
   refine L.Y Y.asg ?_
   refine AList.nil ?_
   obtain rfl := Option.some.inj h
   refine AWp.ret ?_
   exact ⟨.inr rfl, [(2, _)], _, ⟨rfl, rfl⟩, IsPart.at [] [] base0 .nil (E.c .nil)⟩

/-! ### impl_Order_has: function 69 -/
def impl_Order_has.f (k : Nat) (a0_0 : Int) (l0_1 : List Int) (l1 : List Int) : Option (Bool) := (impl_allWithin.f k l1 0 (wrap64 (a0_0 - 1))).bind fun t162 => (some t162)
set_option maxRecDepth 100000 in
set_option maxHeartbeats 20000000 in
theorem impl_Order_has.ac (k : Nat) (a0_0 : Int) (l0_1 : List Int) (l1 : List Int) (r : Bool) (h : impl_Order_has.f k a0_0 l0_1 l1 = some r) :
  ACalls Tryd.prog 69 [.agg [.lit (.int .i64 a0_0), .row 1 l0_1.length false (ints .i64 l0_1)], .row 1 l1.length false (ints .i64 l1)] [] (fun v H' => v = .lit (.bool r) ∧ H' = []) := by
 refine ACalls.ofP [4] Tryd.func69 rfl (by exact Nat.le_of_ble_eq_true rfl) rfl (by decide) ?_
 simp only [Tryd.ntmps69, env0, impl_Order_has.f] at h ⊢
 refine AWp.seq ?_
 refine AWp.region ?_
 refine L.M M.bx ?_
 refine L.Y Y.asg ?_
 refine AList.nil ?_
 refine AWp.seq ?_
 refine AWp.region ?_
 refine L.Y Y.mv ?_
 refine L.Y (Y.fa (off := 0) Tryd.underlying30 Y3) ?_
 refine L.S (S.ld Tryd.underlying3) ?_
 refine L.Y Y.bin ?_
 replace h := Option.bind_eq_some_iff.1 h
 obtain ⟨t162, hc1, h⟩ := h
 refine L.C (C.callE (l := true) [] Tryd.func88 (impl_allWithin.ac _ _ _ _ _ hc1) .nil ?_)
 refine L.Y Y.asg ?_
 refine AList.nil ?_
 obtain rfl := Option.some.inj h
 refine AWp.ret ?_
 exact ⟨.inr rfl, [(4, _)], _, ⟨rfl, rfl⟩, IsPart.at [] [] base0 .nil (E.c .nil)⟩

/-! ### impl_isIncreasing: function 70 -/
def impl_isIncreasing.l0 : Nat → List Int → Int → Option (Bool)
 | 0, _, _ => none
 | k + 1, x0, x3 => if x3 < (x0.length : Int) then (if 0 ≤ (wrap64 (x3 - 1)) then (if (wrap64 (x3 - 1)) < (x0.length : Int) then (if 0 ≤ x3 then (if (rd x0 (wrap64 (x3 - 1))) ≥ (rd x0 x3) then (some false) else (impl_isIncreasing.l0 k x0 (wrap64 (x3 + 1)))) else (none)) else (none)) else (none)) else (some true)
def impl_isIncreasing.f (k : Nat) (l0 : List Int) : Option (Bool) := impl_isIncreasing.l0 k l0 1
set_option maxRecDepth 100000 in
set_option maxHeartbeats 20000000 in
theorem impl_isIncreasing.ac (k : Nat) (l0 : List Int) (r : Bool) (h : impl_isIncreasing.f k l0 = some r) :
  ACalls Tryd.prog 70 [.row 1 l0.length false (ints .i64 l0)] [] (fun v H' => v = .lit (.bool r) ∧ H' = []) := by
 refine ACalls.ofP [2] Tryd.func70 rfl (by exact Nat.le_of_ble_eq_true rfl) rfl (by decide) ?_
 simp only [Tryd.ntmps70, env0, impl_isIncreasing.f] at h ⊢
 refine AWp.seq ?_
 refine AWp.region ?_
 refine L.Y Y.asg ?_
 refine AList.nil ?_
 refine AWp.seq ?_
 refine AWp.seq ?_
 refine AWp.region ?_
 refine L.Y Y.asg ?_
 refine AList.nil ?_
 refine AWp.block ?_
 refine AWp.loopI (fun kk e H => kk ≤ k ∧ ∃ (x3 : Int), e = [(0, .row 1 l0.length false (ints .i64 l0)), (3, .lit (.int .i64 x3))] ∧ H = [] ∧ impl_isIncreasing.l0 kk l0 x3 = some r) (k := k)
  ⟨_, _, ⟨Nat.le_refl _, _, rfl, rfl, h⟩, IsPart.at [] [] base0 .nil (E.c (E.c .nil))⟩ ?_
 clear h
 rintro k1 e H ⟨hk2, x3, rfl, rfl, h⟩
 cases k1 with
 | zero => exact absurd h (by simp [impl_isIncreasing.l0])
 | succ k1 =>
 simp only [impl_isIncreasing.l0] at h
 refine AWp.seq ?_
 refine AWp.seq ?_
 refine AWp.region ?_
 refine L.Y Y.mv ?_
 refine L.Y Y.mv ?_
 refine L.Y (Y.ln Tryd.underlying22) ?_
 refine L.Y Y.bin ?_
 refine AList.nil ?_
 refine W.cond (fun hb => ?_) (fun hb => ?_)
 ·
  have hb3 := hb
  try simp only [hS, hE, ne_eq] at hb
  first | rw [if_pos hb3] at h | rw [if_neg (Bool.eq_false_iff.1 hb3)] at h | rw [if_pos hb] at h | rw [if_neg hb] at h | (simp only [hb, hT, reduceIte] at h) | skip
  repeat (first | (rw [iN] at h; obtain ⟨_, h⟩ := h) | (rw [iP] at h; obtain ⟨_, h⟩ := h) | (simp only [bS] at h))
  refine AWp.skip ?_
  refine AWp.seq ?_
  refine AWp.block ?_
  refine AWp.seq ?_
  refine Dt.reg [] [] (.y 0 (.y 1 (.y 2 (.y 3 (.t 4 (.y 5 (.y 6 (.y 7 (.t 8 (.y 9 .done)))))))))) HM ?_
  refine Dt.Y rfl wantN Y.mv ?_
  refine Dt.Y rfl wantN Y.mv ?_
  refine Dt.Y rfl wantN Y.bin ?_
  refine Dt.Y rfl wantN (Y.ixr Tryd.underlying22 Y3) ?_
  refine Dt.T rfl wantN (D.ld Tryd.underlying3) ?_
  refine Dt.Y rfl wantN Y.mv ?_
  refine Dt.Y rfl wantN Y.mv ?_
  refine Dt.Y rfl wantN (Y.ixr Tryd.underlying22 Y3) ?_
  refine Dt.T rfl wantN (D.ld Tryd.underlying3) ?_
  refine Dt.Y rfl wantN Y.bin ?_
  refine Dt.nil ?_
  refine W.cond (fun hb => ?_) (fun hb => ?_)
  ·
   have hb4 := hb
   try simp only [hS, hE, ne_eq] at hb
   first | rw [if_pos hb4] at h | rw [if_neg (Bool.eq_false_iff.1 hb4)] at h | rw [if_pos hb] at h | rw [if_neg hb] at h | (simp only [hb, hT, reduceIte] at h) | skip
   refine AWp.seq ?_
   refine W.kp [0, 3, 7, 19] ?_
   refine AWp.region ?_
   refine L.Y Y.asg ?_
   refine AList.nil ?_
   obtain rfl := Option.some.inj h
   refine AWp.ret ?_
   exact ⟨.inr rfl, [(2, _)], _, ⟨rfl, rfl⟩, IsPart.at [] [] base0 .nil (E.c .nil)⟩
  ·
   have hb4 := hb
   try simp only [hS, hE, ne_eq] at hb
   first | rw [if_pos hb4] at h | rw [if_neg (Bool.eq_false_iff.1 hb4)] at h | rw [if_pos hb] at h | rw [if_neg hb] at h | (simp only [hb, hT, reduceIte] at h) | skip
   refine AWp.skip ?_
   refine W.kp [0, 3, 7, 19] ?_
   refine AWp.region ?_
   refine L.Y Y.mv ?_
   refine L.Y Y.bin ?_
   refine L.Y Y.asg ?_
   refine AList.nil ?_
   exact ⟨k1, by omega, _, _, ⟨by omega, _, rfl, rfl, h⟩, IsPart.at [] [] base0 .nil (E.c (E.c .nil))⟩
 ·
  have hb3 := hb
  try simp only [hS, hE, ne_eq] at hb
  first | rw [if_pos hb3] at h | rw [if_neg (Bool.eq_false_iff.1 hb3)] at h | rw [if_pos hb] at h | rw [if_neg hb] at h | (simp only [hb, hT, reduceIte] at h) | skip
  refine AWp.exit ?_
  refine AWp.seq ?_
  refine AWp.region ?_
  refine L.Y Y.asg ?_
  refine AList.nil ?_
  obtain rfl := Option.some.inj h
  refine AWp.ret ?_
  exact ⟨.inr rfl, [(2, _)], _, ⟨rfl, rfl⟩, IsPart.at [] [] base0 .nil (E.c .nil)⟩

/-! ### impl_table: function 71 -/
mutual
def impl_table.l0 : Nat → Int → (Int → Int → Option Bool) → Int → Int → Int → Int → List Int → Option (Int × Int × List Int)
 | 0, _, _, _, _, _, _, _ => none
 | k + 1, x1, x2, x15, x16, x170000, x170001, x170002 => if x16 < x15 then (impl_table.l1 k x1 x2 x16 x15 x16 x1 0 x170000 x170001 x170002) else (some (x170000, x170001, x170002))
def impl_table.l1 : Nat → Int → (Int → Int → Option Bool) → Int → Int → Int → Int → Int → Int → Int → List Int → Option (Int × Int × List Int)
 | 0, _, _, _, _, _, _, _, _, _, _ => none
 | k + 1, x1, x2, x8, x15, x16, x19, x20, x170000, x170001, x170002 => if x20 < x19 then ((x2 x8 x20).bind fun t170 => (if t170 = true then (if 0 ≤ x8 then (if x8 < (x170002.length : Int) then (if 0 ≤ x20 then (impl_table.l1 k x1 x2 x8 x15 x16 x19 (wrap64 (x20 + 1)) x170000 x170001 (x170002.set (x8 : Int).toNat (Go.bits .or .i64 (rd x170002 x8) (shl .i64 1 x20)))) else (none)) else (none)) else (none)) else (impl_table.l1 k x1 x2 x8 x15 x16 x19 (wrap64 (x20 + 1)) x170000 x170001 x170002))) else (impl_table.l0 k x1 x2 x15 (wrap64 (x16 + 1)) x170000 x170001 x170002)
end
def impl_table.f (k : Nat) (a0 : Int) (a1 : Int) (a2 : (Int → Int → Option Bool)) : Option (Int × Int × List Int) := if 0 ≤ a0 then (if (a0 : Int).toNat ≤ 35184372088832 then (impl_table.l0 k a1 a2 a0 0 a0 a1 (List.replicate (a0 : Int).toNat 0)) else (none)) else (none)
set_option maxRecDepth 100000 in
set_option maxHeartbeats 20000000 in
theorem impl_table.ac (k : Nat) (a0 : Int) (a1 : Int) (a2 : Int → Int → Option Bool) (r1 : Int) (r2 : Int) (r3 : List Int) (h : impl_table.f k a0 a1 a2 = some (r1, r2, r3)) (F2 : FuncId) (cs2 : List AV) (hF2 : FnOk Tryd.prog F2) (hnf2 : noids cs2 = true) (hcf2 : ∀ x_ y_ r_, a2 x_ y_ = some r_ → ACalls Tryd.prog F2 (.lit (.int .i64 x_) :: .lit (.int .i64 y_) :: cs2) [] (fun v H' => v = .lit (.bool r_) ∧ H' = [])) :
  ACalls Tryd.prog 71 [.lit (.int .i64 a0), .lit (.int .i64 a1), .fn F2 cs2] [] (fun v H' => v = .agg [.lit (.int .i64 r1), .lit (.int .i64 r2), .own 0 r3.length] ∧ H' = [.sl 3 1 r3.length false (ints .i64 r3)]) := by
 obtain ⟨fn2, hff2, hnm2, hbd2⟩ := id hF2
 refine ACalls.ofV Tryd.func71 rfl (by exact Nat.le_of_ble_eq_true rfl) ?_
 simp only [Tryd.ntmps71, env0, impl_table.f] at h ⊢
 repeat (first | (rw [iN] at h; obtain ⟨_, h⟩ := h) | (rw [iP] at h; obtain ⟨_, h⟩ := h) | (simp only [bS] at h))
 refine AWp.seq ?_
 refine AWp.region ?_
 refine L.M (M.al Y27) ?_
 refine AList.nil ?_
 refine AWp.seq ?_
 refine AWp.region ?_
 refine L.Y Y.mv ?_
 refine L.Y Y.mv ?_
 refine L.Y Y.mv ?_
 refine L.M (M.mk Tryd.underlying22 Y3) ?_
 refine L.Y (Y.bd Tryd.underlying27 Y27 P27) ?_
 refine L.M (M.al Y27) ?_
 refine L.S (S.stb Y27) ?_
 refine AList.nil ?_
 refine AWp.seq ?_
 refine AWp.seq ?_
 refine W.kp [0, 1, 2, 6, 7] ?_
 refine AWp.region ?_
 refine L.Y Y.mv ?_
 refine L.Y Y.mv ?_
 refine AList.nil ?_
 refine AWp.block ?_
 refine AWp.loopI (fun kk e H => kk ≤ k ∧ ∃ (x1 : Int) (x15 : Int) (x16 : Int) (x166000 : Int) (x166001 : Int) (x170000 : Int) (x170001 : Int) (x170002 : List Int), e = [(1, .lit (.int .i64 x1)), (2, .fn F2 cs2), (6, .ptr 0 0), (7, .ptr 1 0), (15, .lit (.int .i64 x15)), (16, .lit (.int .i64 x16))] ∧ H = [.bx 27 [.lit (.int .i64 x166000), .lit (.int .i64 x166001), .lit (.slice none 0 0)], .bx 27 [.lit (.int .i64 x170000), .lit (.int .i64 x170001), .own 2 x170002.length], .sl 3 1 x170002.length true (ints .i64 x170002)] ∧ impl_table.l0 kk x1 a2 x15 x16 x170000 x170001 x170002 = some (r1, r2, r3)) (k := k)
  ⟨_, _, ⟨Nat.le_refl _, _, _, _, _, _, _, _, _, rfl, rfl, h⟩, IsPart.at [] [0, 2, 1] base0 (H.c (H.c (H.c .nil))) (E.c (E.c (E.c (E.c (E.c (E.c .nil))))))⟩ ?_
 clear h
 rintro k1 e H ⟨hk2, x1, x15, x16, x166000, x166001, x170000, x170001, x170002, rfl, rfl, h⟩
 cases k1 with
 | zero => exact absurd h (by simp [impl_table.l0])
 | succ k1 =>
 simp only [impl_table.l0] at h
 refine AWp.seq ?_
 refine AWp.region ?_
 refine L.Y Y.bin ?_
 refine AList.nil ?_
 refine AWp.seq ?_
 refine W.cond (fun hb => ?_) (fun hb => ?_)
 ·
  have hb3 := hb
  try simp only [hS, hE, ne_eq] at hb
  first | rw [if_pos hb3] at h | rw [if_neg (Bool.eq_false_iff.1 hb3)] at h | rw [if_pos hb] at h | rw [if_neg hb] at h | (simp only [hb, hT, reduceIte] at h) | skip
  refine AWp.skip ?_
  refine AWp.seq ?_
  refine AWp.block ?_
  refine AWp.seq ?_
  refine AWp.region ?_
  refine L.Y Y.mv ?_
  refine L.Y Y.asg ?_
  refine AList.nil ?_
  refine AWp.seq ?_
  refine AWp.region ?_
  refine L.Y Y.mv ?_
  refine L.Y Y.mv ?_
  refine AList.nil ?_
  refine AWp.block ?_
  refine AWp.loopI (fun kk e H => kk ≤ k1 ∧ ∃ (x1 : Int) (x8 : Int) (x15 : Int) (x16 : Int) (x19 : Int) (x20 : Int) (x166000 : Int) (x166001 : Int) (x170000 : Int) (x170001 : Int) (x170002 : List Int), e = [(1, .lit (.int .i64 x1)), (2, .fn F2 cs2), (6, .ptr 0 0), (7, .ptr 1 0), (8, .lit (.int .i64 x8)), (15, .lit (.int .i64 x15)), (16, .lit (.int .i64 x16)), (19, .lit (.int .i64 x19)), (20, .lit (.int .i64 x20))] ∧ H = [.bx 27 [.lit (.int .i64 x166000), .lit (.int .i64 x166001), .lit (.slice none 0 0)], .bx 27 [.lit (.int .i64 x170000), .lit (.int .i64 x170001), .own 2 x170002.length], .sl 3 1 x170002.length true (ints .i64 x170002)] ∧ impl_table.l1 kk x1 a2 x8 x15 x16 x19 x20 x170000 x170001 x170002 = some (r1, r2, r3)) (k := k1)
   ⟨_, _, ⟨Nat.le_refl _, _, _, _, _, _, _, _, _, _, _, _, rfl, rfl, h⟩, IsPart.at [] [0, 1, 2] base0 (H.c (H.c (H.c .nil))) (E.c (E.c (E.c (E.c (E.c (E.c (E.c (E.c (E.c .nil)))))))))⟩ ?_
  clear h
  rintro k4 e H ⟨hk5, x1, x8, x15, x16, x19, x20, x166000, x166001, x170000, x170001, x170002, rfl, rfl, h⟩
  cases k4 with
  | zero => exact absurd h (by simp [impl_table.l1])
  | succ k4 =>
  simp only [impl_table.l1] at h
  refine AWp.seq ?_
  refine AWp.region ?_
  refine L.Y Y.bin ?_
  refine AList.nil ?_
  refine AWp.seq ?_
  refine W.cond (fun hb => ?_) (fun hb => ?_)
  ·
   have hb6 := hb
   try simp only [hS, hE, ne_eq] at hb
   first | rw [if_pos hb6] at h | rw [if_neg (Bool.eq_false_iff.1 hb6)] at h | rw [if_pos hb] at h | rw [if_neg hb] at h | (simp only [hb, hT, reduceIte] at h) | skip
   refine AWp.skip ?_
   refine AWp.seq ?_
   refine AWp.block ?_
   refine AWp.seq ?_
   refine AWp.region ?_
   refine L.Y Y.mv ?_
   refine L.Y Y.asg ?_
   refine AList.nil ?_
   refine AWp.seq ?_
   refine AWp.region ?_
   refine L.Y Y.mv ?_
   refine L.Y Y.mv ?_
   refine L.Y Y.mv ?_
   replace h := Option.bind_eq_some_iff.1 h
   obtain ⟨t170, hc7, h⟩ := h
   refine L.C (C.callE (l := true) [] hff2 (hcf2 _ _ _ hc7) .nil ?_ (hname := hnm2) (hb := hbd2))
   refine AList.nil ?_
   refine W.cond (fun hb => ?_) (fun hb => ?_)
   ·
    have hb8 := hb
    try simp only [hS, hE, ne_eq] at hb
    first | rw [if_pos hb8] at h | rw [if_neg (Bool.eq_false_iff.1 hb8)] at h | rw [if_pos hb] at h | rw [if_neg hb] at h | (simp only [hb, hT, reduceIte] at h) | skip
    repeat (first | (rw [iN] at h; obtain ⟨_, h⟩ := h) | (rw [iP] at h; obtain ⟨_, h⟩ := h) | (simp only [bS] at h))
    refine W.kp [1, 2, 6, 7, 8, 9, 15, 16, 19, 20, 21, 26] ?_
    refine Dt.reg [] [9] (.y 0 (.t 1 (.y 2 (.y 3 (.t 4 (.y 5 (.y 6 (.y 7 (.y 8 (.last 9 .done)))))))))) HM ?_
    refine Dt.Y rfl wantN (Y.fa (off := 2) Tryd.underlying27 Y22) ?_
    refine Dt.T rfl wantN (D.ld Tryd.underlying22) ?_
    refine Dt.Y rfl wantN Y.mv ?_
    refine Dt.Y rfl wantN (Y.ixo Tryd.underlying22 Y3) ?_
    refine Dt.T rfl wantN (D.ld Tryd.underlying3) ?_
    refine Dt.Y rfl wantN Y.mv ?_
    refine Dt.Y rfl wantN Y.bin ?_
    refine Dt.Y rfl wantN Y.bin ?_
    refine Dt.Y rfl wantN (Y.ixo Tryd.underlying22 Y3) ?_
    refine Dt.L rfl wantN ?_
    refine Op.S (S.sts Y3) ?_
    refine Du.nil ?_
    refine W.kp [1, 2, 6, 7, 8, 9, 15, 16, 19, 20, 21, 26] ?_
    refine AWp.region ?_
    refine L.Y Y.bin ?_
    refine L.Y Y.mv ?_
    refine AList.nil ?_
    exact ⟨k4, by omega, _, _, ⟨by omega, _, _, _, _, _, _, _, _, _, _, _, rfl, rfl, h⟩, IsPart.at [] [0, 1, 2] base0 (H.c (H.c (H.c .nil))) (E.c (E.c (E.c (E.c (E.c (E.c (E.c (E.c (E.c .nil)))))))))⟩
   ·
    have hb8 := hb
    try simp only [hS, hE, ne_eq] at hb
    first | rw [if_pos hb8] at h | rw [if_neg (Bool.eq_false_iff.1 hb8)] at h | rw [if_pos hb] at h | rw [if_neg hb] at h | (simp only [hb, hT, reduceIte] at h) | skip
    refine AWp.skip ?_
    refine W.kp [1, 2, 6, 7, 8, 9, 15, 16, 19, 20, 21, 26] ?_
    refine AWp.region ?_
    refine L.Y Y.bin ?_
    refine L.Y Y.mv ?_
    refine AList.nil ?_
    exact ⟨k4, by omega, _, _, ⟨by omega, _, _, _, _, _, _, _, _, _, _, _, rfl, rfl, h⟩, IsPart.at [] [0, 1, 2] base0 (H.c (H.c (H.c .nil))) (E.c (E.c (E.c (E.c (E.c (E.c (E.c (E.c (E.c .nil)))))))))⟩
  ·
   have hb6 := hb
   try simp only [hS, hE, ne_eq] at hb
   first | rw [if_pos hb6] at h | rw [if_neg (Bool.eq_false_iff.1 hb6)] at h | rw [if_pos hb] at h | rw [if_neg hb] at h | (simp only [hb, hT, reduceIte] at h) | skip
   refine AWp.exit ?_
   refine AWp.region ?_
   refine L.Y Y.bin ?_
   refine L.Y Y.mv ?_
   refine AList.nil ?_
   exact ⟨k4, by omega, _, _, ⟨by omega, _, _, _, _, _, _, _, _, rfl, rfl, h⟩, IsPart.at [] [0, 1, 2] base0 (H.c (H.c (H.c .nil))) (E.c (E.c (E.c (E.c (E.c (E.c .nil))))))⟩
 ·
  have hb3 := hb
  try simp only [hS, hE, ne_eq] at hb
  first | rw [if_pos hb3] at h | rw [if_neg (Bool.eq_false_iff.1 hb3)] at h | rw [if_pos hb] at h | rw [if_neg hb] at h | (simp only [hb, hT, reduceIte] at h) | skip
  refine AWp.exit ?_
  refine AWp.seq ?_
  refine AWp.region ?_
  refine L.S (S.ldN Tryd.underlying27 Y27) ?_
  refine L.S (S.stb Y27) ?_
  refine AList.nil ?_
  simp only [Option.some.injEq, Prod.mk.injEq] at h
  obtain ⟨rfl, rfl, rfl⟩ := h
  refine AWp.ret ?_
  exact ⟨.inr rfl, _, _, _, Res.cl Tryd.underlying27 Y27, ⟨rfl, rfl⟩, PartV.at [] [2] base0 (H.c .nil)⟩

/-! ### impl_TableOfOrder_1: function 72 -/
def impl_TableOfOrder_1.f (a0 : Int) (a1 : Int) (a2_0 : Int) (l2_1 : List Int) (l3_0 : List Int) (l4_0 : List Int) : Option (Bool) := if 0 ≤ a0 then (if a0 < (l3_0.length : Int) then (if 0 ≤ a1 then (if a1 < (l4_0.length : Int) then ((impl_Order_better.f a2_0 l2_1 (rd l3_0 a0) (rd l4_0 a1)).bind fun t175 => (some t175)) else (none)) else (none)) else (none)) else (none)
set_option maxRecDepth 100000 in
set_option maxHeartbeats 20000000 in
theorem impl_TableOfOrder_1.ac (a0 : Int) (a1 : Int) (a2_0 : Int) (l2_1 : List Int) (l3_0 : List Int) (l4_0 : List Int) (r : Bool) (h : impl_TableOfOrder_1.f a0 a1 a2_0 l2_1 l3_0 l4_0 = some r) :
  ACalls Tryd.prog 72 [.lit (.int .i64 a0), .lit (.int .i64 a1), .rptr [.lit (.int .i64 a2_0), .row 1 l2_1.length false (ints .i64 l2_1)], .rptr [.row 1 l3_0.length false (ints .i64 l3_0)], .rptr [.row 1 l4_0.length false (ints .i64 l4_0)]] [] (fun v H' => v = .lit (.bool r) ∧ H' = []) := by
 refine ACalls.ofP [7] Tryd.func72 rfl (by exact Nat.le_of_ble_eq_true rfl) rfl (by decide) ?_
 simp only [Tryd.ntmps72, env0, impl_TableOfOrder_1.f] at h ⊢
 repeat (first | (rw [iN] at h; obtain ⟨_, h⟩ := h) | (rw [iP] at h; obtain ⟨_, h⟩ := h) | (simp only [bS] at h))
 refine AWp.seq ?_
 refine AWp.region ?_
 refine L.Y Y.asg ?_
 refine AList.nil ?_
 refine AWp.seq ?_
 refine Dt.reg [] [] (.t 0 (.t 1 (.y 2 (.y 3 (.t 4 (.t 5 (.y 6 (.y 7 (.t 8 (.one 9 (.y 10 .done))))))))))) HM ?_
 refine Dt.T rfl wantN (D.ldN Tryd.underlying30 Y30) ?_
 refine Dt.T rfl wantN (D.ld Tryd.underlying22) ?_
 refine Dt.Y rfl wantN Y.mv ?_
 refine Dt.Y rfl wantN (Y.ixr Tryd.underlying22 Y3) ?_
 refine Dt.T rfl wantN (D.ld Tryd.underlying3) ?_
 refine Dt.T rfl wantN (D.ld Tryd.underlying22) ?_
 refine Dt.Y rfl wantN Y.mv ?_
 refine Dt.Y rfl wantN (Y.ixr Tryd.underlying22 Y3) ?_
 refine Dt.T rfl wantN (D.ld Tryd.underlying3) ?_
 refine Dt.O (g' := false) rfl wantN ?_
 replace h := Option.bind_eq_some_iff.1 h
 obtain ⟨t175, hc1, h⟩ := h
 refine Ox.C true [] Tryd.func73 (impl_Order_better.ac _ _ _ _ _ hc1) .nil ?_
 refine Dt.Y rfl wantN Y.asg ?_
 refine Dt.nil ?_
 obtain rfl := Option.some.inj h
 refine AWp.ret ?_
 exact ⟨.inr rfl, [(7, _)], _, ⟨rfl, rfl⟩, IsPart.at [] [] base0 .nil (E.c .nil)⟩

end Go.Proofs.YtpippjgphndjmaaDoor.PFnOrdersAsTables
