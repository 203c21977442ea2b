-- Written by a program of this session's (wip/myprint2): the functions by the kit's print, the walks by awgen.py. Lean checks it.
import Derived.Test.YtpippjgphndjmaaDoorPFnChoicesOfOrdersx0
import Derived.Test.YtpippjgphndjmaaDoorPFnChoicesOfOrdersx1
import Derived.Test.YtpippjgphndjmaaDoorPFnChoicesOfOrdersx4
namespace Go.Proofs.YtpippjgphndjmaaDoor.PFnChoicesOfOrders
open Go.RowKit Go.Proofs.YtpippjgphndjmaaDoorW.PrintWords Go.Proofs.YtpippjgphndjmaaDoorW.PrintLast Go.Proofs.YtpippjgphndjmaaDoorW.PrintMore Go.Proofs.YtpippjgphndjmaaDoorM Go.Proofs.YtpippjgphndjmaaDoorA Go.Proofs.YtpippjgphndjmaaDoorT
attribute [local go_sem] max2_int min2_int max_two min_two max_three min_three max_four min_four   -- for this text's walks alone
set_option linter.unusedVariables false
set_option linter.unusedSimpArgs false

/-! ### impl_IsRelation: function 28 -/
def impl_IsRelation.f (k : Nat) (a0_0 : Int) (l0_1 : List Int) : Option (Bool) := (impl_within.f a0_0 0 10).bind fun t269 => (if t269 = true then (if (l0_1.length : Int) = a0_0 then (if 0 ≤ a0_0 then ((impl_allWithin.f k l0_1 0 (wrap64 ((shl .i64 1 a0_0) - 1))).bind fun t270 => (some t270)) else (none)) else (some false)) else (some false))
theorem impl_IsRelation.mono : ∀ a0 a1 k, LeO (impl_IsRelation.f k a0 a1) (impl_IsRelation.f (k + 1) a0 a1) := by
 intro a0 a1 k
 unfold impl_IsRelation.f
 repeat' first
   | (with_reducible exact impl_allWithin.mono _ _ _ _)
   | (with_reducible exact LeO.refl _)
   | (with_reducible exact LeO.none _)
   | (with_reducible refine LeO.ite ?_ ?_)
   | (with_reducible refine LeO.bind ?_ (fun _ => ?_))
   | exact impl_allWithin.mono _ _ _ _
   | exact LeO.none _
   | refine LeO.ite ?_ ?_
   | refine LeO.bind ?_ (fun _ => ?_)
set_option maxRecDepth 100000 in
set_option maxHeartbeats 20000000 in
theorem impl_IsRelation.ac (k : Nat) (a0_0 : Int) (l0_1 : List Int) (r : Bool) (h : impl_IsRelation.f k a0_0 l0_1 = some r) :
  ACalls Tryd.prog 28 [.agg [.lit (.int .i64 a0_0), .row 1 l0_1.length false (ints .i64 l0_1)]] [] (fun v H' => v = .lit (.bool r) ∧ H' = []) := by
 refine ACalls.ofP [2] Tryd.func28 rfl (by exact Nat.le_of_ble_eq_true rfl) rfl (by decide) ?_
 simp only [Tryd.ntmps28, env0, impl_IsRelation.f] at h ⊢
 pl_ h
 refine AWp.seq ?_
 refine AWp.region ?_
 refine L.M M.bx ?_
 refine L.Y Y.asg ?_
 refine AList.nil ?_
 refine AWp.seq ?_
 refine Dt.reg [] [] (.y 0 (.t 1 (.one 2 (.y 3 (.y 4 (.t 5 (.y 6 (.y 7 (.t 8 (.y 9 (.y 10 (.y 11 (.y 12 (.t 13 (.y 14 (.t 15 (.y 16 (.y 17 (.one 18 (.y 19 (.y 20 .done))))))))))))))))))))) HM ?_
 refine Dt.Y rfl wantN (Y.fa (off := 0) Tryd.underlying30 Y3) ?_
 refine Dt.T rfl wantN (D.ld Tryd.underlying3) ?_
 refine Dt.O (g' := false) rfl wantN ?_
 pl_ h
 obtain ⟨t269, hc1, h⟩ := Option.bind_eq_some_iff.1 h
 pl_ h
 refine Ox.C true [] Tryd.func68 (impl_within.ac _ _ _ _ hc1) .nil ?_
 refine Dt.Y rfl wantN Y.mv ?_
 refine Dt.F 6 (fun hb => ?_) (fun hb => ?_)
 ·
  have hb2 := hb
  sb_ hb
  rw_ hb2 hb h
  pl_ h
  refine Dt.Y rfl (wantY hb2) (Y.fa (off := 1) Tryd.underlying30 Y22) ?_
  refine Dt.T rfl (wantY hb2) (D.ld Tryd.underlying22) ?_
  refine Dt.Y rfl (wantY hb2) (Y.ln Tryd.underlying22) ?_
  refine Dt.Y rfl (wantY hb2) (Y.fa (off := 0) Tryd.underlying30 Y3) ?_
  refine Dt.T rfl (wantY hb2) (D.ld Tryd.underlying3) ?_
  refine Dt.Y rfl (wantY hb2) Y.bin ?_
  refine Dt.Y rfl wantN (Y.pk (c := true) hb2) ?_
  refine Dt.Y rfl wantN Y.mv ?_
  refine Dt.F 14 (fun hb => ?_) (fun hb => ?_)
  ·
   have hb3 := hb
   sb_ hb
   rw_ hb3 hb h
   pl_ h
   refine Dt.Y rfl (wantY hb3) (Y.fa (off := 1) Tryd.underlying30 Y22) ?_
   refine Dt.T rfl (wantY hb3) (D.ld Tryd.underlying22) ?_
   refine Dt.Y rfl (wantY hb3) (Y.fa (off := 0) Tryd.underlying30 Y3) ?_
   refine Dt.T rfl (wantY hb3) (D.ld Tryd.underlying3) ?_
   refine Dt.Y rfl (wantY hb3) Y.bin ?_
   refine Dt.Y rfl (wantY hb3) Y.bin ?_
   refine Dt.O (g' := false) rfl (wantY hb3) ?_
   pl_ h
   obtain ⟨t270, hc4, h⟩ := Option.bind_eq_some_iff.1 h
   pl_ h
   refine Ox.C true [] Tryd.func88 (impl_allWithin.ac _ _ _ _ _ hc4) .nil ?_
   refine Dt.Y rfl wantN (Y.pk (c := true) hb3) ?_
   refine Dt.Y rfl wantN Y.asg ?_
   refine Dt.nil ?_
   pl_ h
   obtain rfl := Option.some.inj h
   refine AWp.ret ?_
   exact ⟨.inr rfl, [(2, _)], _, ⟨rfl, rfl⟩, IsPart.at [] [] base0 .nil (E.c .nil)⟩
  ·
   have hb3 := hb
   sb_ hb
   rw_ hb3 hb h
   pl_ h
   refine Dt.No rfl (wantZ hb3) ?_
   refine Dt.Nt rfl (wantZ hb3) ?_
   refine Dt.No rfl (wantZ hb3) ?_
   refine Dt.Nt rfl (wantZ hb3) ?_
   refine Dt.No rfl (wantZ hb3) ?_
   refine Dt.No rfl (wantZ hb3) ?_
   refine Dt.Po rfl (wantZ hb3) ?_
   refine Dt.Y rfl wantN (Y.pk (c := false) hb3) ?_
   refine Dt.Y rfl wantN Y.asg ?_
   refine Dt.nil ?_
   pl_ h
   obtain rfl := Option.some.inj h
   refine AWp.ret ?_
   exact ⟨.inr rfl, [(2, _)], _, ⟨rfl, rfl⟩, IsPart.at [] [] base0 .nil (E.c .nil)⟩
 ·
  have hb2 := hb
  sb_ hb
  rw_ hb2 hb h
  pl_ h
  refine Dt.No rfl (wantZ hb2) ?_
  refine Dt.Nt rfl (wantZ hb2) ?_
  refine Dt.No rfl (wantZ hb2) ?_
  refine Dt.No rfl (wantZ hb2) ?_
  refine Dt.Nt rfl (wantZ hb2) ?_
  refine Dt.No rfl (wantZ hb2) ?_
  refine Dt.Y rfl wantN (Y.pk (c := false) hb2) ?_
  refine Dt.Y rfl wantN Y.mv ?_
  refine Dt.F 14 (fun hb => ?_) (fun hb => ?_)
  ·
   dd_ hb
  have hb5 := hb
  refine Dt.No rfl (wantZ hb5) ?_
  refine Dt.Nt rfl (wantZ hb5) ?_
  refine Dt.No rfl (wantZ hb5) ?_
  refine Dt.Nt rfl (wantZ hb5) ?_
  refine Dt.No rfl (wantZ hb5) ?_
  refine Dt.No rfl (wantZ hb5) ?_
  refine Dt.Po rfl (wantZ hb5) ?_
  refine Dt.Y rfl wantN (Y.pk (c := false) hb5) ?_
  refine Dt.Y rfl wantN Y.asg ?_
  refine Dt.nil ?_
  pl_ h
  obtain rfl := Option.some.inj h
  refine AWp.ret ?_
  exact ⟨.inr rfl, [(2, _)], _, ⟨rfl, rfl⟩, IsPart.at [] [] base0 .nil (E.c .nil)⟩

/-! ### impl_Order_all: function 82 -/
def impl_Order_all.f (a0_0 : Int) (l0_1 : List Int) : Option (Int) := if 0 ≤ a0_0 then (some (wrap64 ((shl .i64 1 a0_0) - 1))) else (none)
set_option maxRecDepth 100000 in
set_option maxHeartbeats 20000000 in
theorem impl_Order_all.ac (a0_0 : Int) (l0_1 : List Int) (r : Int) (h : impl_Order_all.f a0_0 l0_1 = some r) :
  ACalls Tryd.prog 82 [.agg [.lit (.int .i64 a0_0), .row 1 l0_1.length false (ints .i64 l0_1)]] [] (fun v H' => v = .lit (.int .i64 r) ∧ H' = []) := by
 refine ACalls.ofP [2] Tryd.func82 rfl (by exact Nat.le_of_ble_eq_true rfl) rfl (by decide) ?_
 simp only [Tryd.ntmps82, env0, impl_Order_all.f] at h ⊢
 pl_ h
 refine AWp.seq ?_
 refine AWp.region ?_
 refine L.M M.bx ?_
 refine L.Y Y.asg ?_
 refine AList.nil ?_
 refine AWp.seq ?_
 refine AWp.region ?_
 refine L.Y (Y.fa (off := 0) Tryd.underlying30 Y3) ?_
 refine L.S (S.ld Tryd.underlying3) ?_
 refine L.Y Y.bin ?_
 refine L.Y Y.bin ?_
 refine L.Y Y.asg ?_
 refine AList.nil ?_
 pl_ h
 obtain rfl := Option.some.inj h
 refine AWp.ret ?_
 exact ⟨.inr rfl, [(2, _)], _, ⟨rfl, rfl⟩, IsPart.at [] [] base0 .nil (E.c .nil)⟩

-- NOT PRINTED: function 144 (bits_TrailingZeros32)

/-! ### bits_TrailingZeros64: function 145 -/
def bits_TrailingZeros64.f (a0 : Int) : Option (Int) := if 0 ≤ a0 ∧ a0 < 18446744073709551616 then some ((Lib.ctz 64 a0.toNat : Nat) : Int) else none
def bits_TrailingZeros64.ren : Go.Shelf.Ren := ⟨fun | 29 => 145 | n => n, fun | 22 => 80 | 3 => 3 | 4 => 4 | 25 => 108 | 54 => 132 | 0 => 0 | 5 => 5 | n => n, fun | 1 => 1 | n => n⟩
theorem bits_TrailingZeros64.lays : Go.Proofs.Lays7.n29 Tryd.prog bits_TrailingZeros64.ren where
 mixed := by kernel_rfl
 f29 := Tryd.func145.trans (congrArg some (by kernel_rfl))
 t0 := Tryd.underlying0
 a0 := Tryd.isAgg0
 z0 := Tryd.sizeOf0
 v0 := Tryd.zeroValue0
 i0 := by kernel_rfl
 t3 := Tryd.underlying3
 a3 := Tryd.isAgg3
 z3 := Tryd.sizeOf3
 v3 := Tryd.zeroValue3
 i3 := by kernel_rfl
 t4 := Tryd.underlying4
 a4 := Tryd.isAgg4
 z4 := Tryd.sizeOf4
 v4 := Tryd.zeroValue4
 i4 := by kernel_rfl
 t5 := Tryd.underlying5
 a5 := Tryd.isAgg5
 z5 := Tryd.sizeOf5
 v5 := Tryd.zeroValue5
 i5 := by kernel_rfl
 t22 := Tryd.underlying80
 a22 := Tryd.isAgg80
 z22 := Tryd.sizeOf80
 v22 := Tryd.zeroValue80
 i22 := by kernel_rfl
 t25 := Tryd.underlying108
 a25 := Tryd.isAgg108
 z25 := Tryd.sizeOf108
 v25 := Tryd.zeroValue108
 i25 := by kernel_rfl
 t54 := Tryd.underlying132
 a54 := Tryd.isAgg132
 z54 := Tryd.sizeOf132
 g1 := by kernel_rfl
theorem bits_TrailingZeros64.calls (a0 : Int) (r : Int) (w : World) (hT : TabIn w) (h : bits_TrailingZeros64.f a0 = some r) :
  Calls Tryd.prog 145 #[.int .u64 a0] w fun e w' => e = .returned (.int .i64 r) ∧ Drawn0 w w' := by
 unfold bits_TrailingZeros64.f at h
 by_cases hb : 0 ≤ a0 ∧ a0 < 18446744073709551616
 ·
  rw [if_pos hb] at h
  injection h with h
  subst h
  obtain ⟨n, rfl⟩ := Int.eq_ofNat_of_zero_le hb.1
  refine (Any7.bits_TrailingZeros64 bits_TrailingZeros64.lays n (by omega) w (fun _ => hT)).mono ?_
  rintro e w' ⟨rfl, rfl⟩
  exact ⟨by simp, Drawn0.refl _⟩
 ·
  rw [if_neg hb] at h
  cases h
theorem bits_TrailingZeros64.ac (a0 : Int) (r : Int) (h : bits_TrailingZeros64.f a0 = some r) : ACalls Tryd.prog 145 [.lit (.int .u64 a0)] [] (fun v H' => v = .lit (.int .i64 r) ∧ H' = []) := by
 unfold bits_TrailingZeros64.f at h
 by_cases hb : 0 ≤ a0 ∧ a0 < 18446744073709551616
 ·
  rw [if_pos hb] at h
  injection h with h
  subst h
  obtain ⟨n, rfl⟩ := Int.eq_ofNat_of_zero_le hb.1
  refine ACalls.same (vs := [.int .u64 (n : Int)]) fun R w ht => ?_
  refine (Any7.bits_TrailingZeros64 bits_TrailingZeros64.lays n (by omega) w (fun _ => tabIn_of ht)).mono ?_
  rintro e w' ⟨rfl, rfl⟩
  exact ⟨by simp, rfl⟩
 ·
  rw [if_neg hb] at h
  cases h

/-! ### bits_TrailingZeros: function 129 -/
def bits_TrailingZeros.f (a0 : Int) : Option (Int) := (bits_TrailingZeros64.f a0).bind fun t272 => (some t272)
set_option maxRecDepth 100000 in
set_option maxHeartbeats 20000000 in
theorem bits_TrailingZeros.ac (a0 : Int) (r : Int) (h : bits_TrailingZeros.f a0 = some r) :
  ACalls Tryd.prog 129 [.lit (.int .u64 a0)] [] (fun v H' => v = .lit (.int .i64 r) ∧ H' = []) := by
 refine ACalls.ofP [2] Tryd.func129 rfl (by exact Nat.le_of_ble_eq_true rfl) rfl (by decide) ?_
 simp only [Tryd.ntmps129, env0, bits_TrailingZeros.f] at h ⊢
 pl_ h
 refine AWp.seq ?_
 refine AWp.region ?_
 refine L.Y Y.asg ?_
 refine AList.nil ?_
 refine AWp.seq ?_
 refine W.cond (fun hb => ?_) (fun hb => ?_)
 ·
  dd_ hb
 refine AWp.skip ?_
 refine AWp.seq ?_
 refine AWp.region ?_
 refine L.Y Y.mv ?_
 pl_ h
 obtain ⟨t272, hc2, h⟩ := Option.bind_eq_some_iff.1 h
 pl_ h
 refine L.C (C.callE (l := true) [] Tryd.func145 (bits_TrailingZeros64.ac _ _ hc2) .nil ?_)
 refine L.Y Y.asg ?_
 refine AList.nil ?_
 pl_ h
 obtain rfl := Option.some.inj h
 refine AWp.ret ?_
 exact ⟨.inr rfl, [(2, _)], _, ⟨rfl, rfl⟩, IsPart.at [] [] base0 .nil (E.c .nil)⟩

/-! ### impl_members: function 89 -/
def impl_members.l0 : Nat → Int → List Int → Option (List Int)
 | 0, _, _ => none
 | k + 1, x0, x3 => if x0 = 0 then (some x3) else ((bits_TrailingZeros.f (IntKind.u64.wrap (x0))).bind fun t276 => (if x3.length < 17592186044416 then (impl_members.l0 k (Go.bits .and .i64 x0 (wrap64 (x0 - 1))) (x3 ++ [t276])) else (none)))
def impl_members.f (k : Nat) (a0 : Int) : Option (List Int) := impl_members.l0 k a0 (([] : List Int))
theorem impl_members.mono_l : ∀ k, (∀ y0 y1, LeO (impl_members.l0 k y0 y1) (impl_members.l0 (k + 1) y0 y1))
 | 0 => fun _ _ r h => by simp [impl_members.l0] at h
 | k + 1 => by
  have ih0 := impl_members.mono_l k
  ·
   intro y0 y1
   unfold impl_members.l0
   repeat' first
   | (with_reducible exact ih0 _ _)
   | (with_reducible exact LeO.refl _)
   | (with_reducible exact LeO.none _)
   | (with_reducible refine LeO.ite ?_ ?_)
   | (with_reducible refine LeO.bind ?_ (fun _ => ?_))
   | exact ih0 _ _
   | exact LeO.none _
   | refine LeO.ite ?_ ?_
   | refine LeO.bind ?_ (fun _ => ?_)
theorem impl_members.mono : ∀ a0 k, LeO (impl_members.f k a0) (impl_members.f (k + 1) a0) := by
 intro a0 k
 have ih0 := impl_members.mono_l k
 unfold impl_members.f
 repeat' first
   | (with_reducible exact ih0 _ _)
   | (with_reducible exact LeO.refl _)
   | (with_reducible exact LeO.none _)
   | (with_reducible refine LeO.ite ?_ ?_)
   | (with_reducible refine LeO.bind ?_ (fun _ => ?_))
   | exact ih0 _ _
   | exact LeO.none _
   | refine LeO.ite ?_ ?_
   | refine LeO.bind ?_ (fun _ => ?_)
set_option maxRecDepth 100000 in
set_option maxHeartbeats 20000000 in
theorem impl_members.ac (k : Nat) (a0 : Int) (r : List Int) (h : impl_members.f k a0 = some r) :
  ACalls Tryd.prog 89 [.lit (.int .i64 a0)] [] (fun v H' => v = .own 0 r.length ∧ H' = [.sl 3 1 r.length false (ints .i64 r)]) := by
 refine ACalls.ofP [2] Tryd.func89 rfl (by exact Nat.le_of_ble_eq_true rfl) rfl (by decide) ?_
 simp only [Tryd.ntmps89, env0, impl_members.f] at h ⊢
 pl_ h
 refine AWp.seq ?_
 refine AWp.region ?_
 refine L.Y Y.asg ?_
 refine AList.nil ?_
 refine AWp.seq ?_
 refine AWp.region ?_
 refine L.M (M.bs Tryd.underlying22 Y3) ?_
 refine L.Y Y.asg ?_
 refine AList.nil ?_
 refine AWp.seq ?_
 refine AWp.block ?_
 pl_ h
 refine AWp.loopI (fun kk e H => kk ≤ k ∧ ∃ (x0 : Int) (x3 : List Int), e = [(0, .lit (.int .i64 x0)), (2, .lit (.slice none 0 0)), (3, .own 0 x3.length)] ∧ H = [.sl 3 1 x3.length true (ints .i64 x3)] ∧ impl_members.l0 kk x0 x3 = some r) (k := k)
  ⟨_, _, ⟨Nat.le_refl _, _, _, rfl, rfl, h⟩, IsPart.at [] [0] base0 (H.c .nil) (E.c (E.c (E.c .nil)))⟩ ?_
 clear h
 rintro k1 e H ⟨hk2, x0, x3, rfl, rfl, h⟩
 cases k1 with
 | zero => exact absurd h (by simp [impl_members.l0])
 | succ k1 =>
 simp only [impl_members.l0] at h
 pl_ h
 refine AWp.seq ?_
 refine AWp.seq ?_
 refine AWp.region ?_
 refine L.Y Y.mv ?_
 refine L.Y Y.bin ?_
 refine AList.nil ?_
 refine W.cond (fun hb => ?_) (fun hb => ?_)
 ·
  have hb3 := hb
  sb_ hb
  rw_ hb3 hb h
  pl_ h
  refine AWp.skip ?_
  refine AWp.seq ?_
  refine AWp.block ?_
  refine AWp.region ?_
  refine L.Y Y.mv ?_
  refine L.Y Y.mv ?_
  refine L.Y (Y.cv Tryd.underlying3 Tryd.underlying108) ?_
  pl_ h
  obtain ⟨t276, hc4, h⟩ := Option.bind_eq_some_iff.1 h
  pl_ h
  refine L.C (C.callE (l := true) [] Tryd.func129 (bits_TrailingZeros.ac _ _ hc4) .nil ?_)
  refine L.M (M.bs Tryd.underlying22 Y3) ?_
  refine L.S (S.ap (nn' := true) Tryd.underlying22 Y3) ?_
  refine L.Y Y.asg ?_
  refine AList.nil ?_
  refine W.kp [0, 2, 3, 6] ?_
  refine AWp.region ?_
  refine L.Y Y.mv ?_
  refine L.Y Y.mv ?_
  refine L.Y Y.bin ?_
  refine L.Y Y.bin ?_
  refine L.Y Y.asg ?_
  refine AList.nil ?_
  pl_ h
  exact ⟨k1, by omega, _, _, ⟨by omega, _, _, rfl, rfl, h⟩, IsPart.at [] [0] base0 (H.c .nil) (E.c (E.c (E.c .nil)))⟩
 ·
  have hb3 := hb
  sb_ hb
  rw_ hb3 hb h
  pl_ h
  refine AWp.exit ?_
  refine AWp.seq ?_
  refine AWp.region ?_
  refine L.Y Y.mv ?_
  refine L.Y Y.asg ?_
  refine AList.nil ?_
  pl_ h
  obtain rfl := Option.some.inj h
  refine AWp.ret ?_
  exact ⟨.inr rfl, [(2, _)], _, ⟨rfl, rfl⟩, IsPart.at [] [0] base0 (H.c .nil) (E.c .nil)⟩

/-! ### impl_Order_choice: function 83 -/
def impl_Order_choice.l0 : Nat → Int → Int → List Int → Int → Int → Int → List Int → Option (Int)
 | 0, _, _, _, _, _, _, _ => none
 | k + 1, x1, x5, x9, x10, x11, x281000, x281001 => if x11 < x10 then (if 0 ≤ x11 then (if x11 < (x9.length : Int) then (if 0 ≤ (rd x9 x11) then (if (rd x9 x11) < (x281001.length : Int) then (if (Go.bits .and .i64 (rd x281001 (rd x9 x11)) x1) = 0 then (impl_Order_choice.l0 k x1 (Go.bits .or .i64 x5 (shl .i64 1 (rd x9 x11))) x9 x10 (wrap64 (x11 + 1)) x281000 x281001) else (impl_Order_choice.l0 k x1 x5 x9 x10 (wrap64 (x11 + 1)) x281000 x281001)) else (none)) else (none)) else (none)) else (none)) else (some x5)
def impl_Order_choice.f (k : Nat) (a0_0 : Int) (l0_1 : List Int) (a1 : Int) : Option (Int) := (impl_members.f k a1).bind fun t281 => (impl_Order_choice.l0 k a1 0 t281 (t281.length : Int) 0 a0_0 l0_1)
theorem impl_Order_choice.mono_l : ∀ k, (∀ y0 y1 y2 y3 y4 y5 y6, LeO (impl_Order_choice.l0 k y0 y1 y2 y3 y4 y5 y6) (impl_Order_choice.l0 (k + 1) y0 y1 y2 y3 y4 y5 y6))
 | 0 => fun _ _ _ _ _ _ _ r h => by simp [impl_Order_choice.l0] at h
 | k + 1 => by
  have ih0 := impl_Order_choice.mono_l k
  ·
   intro y0 y1 y2 y3 y4 y5 y6
   unfold impl_Order_choice.l0
   repeat' first
   | (with_reducible exact ih0 _ _ _ _ _ _ _)
   | (with_reducible exact impl_members.mono _ _)
   | (with_reducible exact LeO.refl _)
   | (with_reducible exact LeO.none _)
   | (with_reducible refine LeO.ite ?_ ?_)
   | (with_reducible refine LeO.bind ?_ (fun _ => ?_))
   | exact ih0 _ _ _ _ _ _ _
   | exact impl_members.mono _ _
   | exact LeO.none _
   | refine LeO.ite ?_ ?_
   | refine LeO.bind ?_ (fun _ => ?_)
theorem impl_Order_choice.mono : ∀ a0 a1 a2 k, LeO (impl_Order_choice.f k a0 a1 a2) (impl_Order_choice.f (k + 1) a0 a1 a2) := by
 intro a0 a1 a2 k
 have ih0 := impl_Order_choice.mono_l k
 unfold impl_Order_choice.f
 repeat' first
   | (with_reducible exact ih0 _ _ _ _ _ _ _)
   | (with_reducible exact impl_members.mono _ _)
   | (with_reducible exact LeO.refl _)
   | (with_reducible exact LeO.none _)
   | (with_reducible refine LeO.ite ?_ ?_)
   | (with_reducible refine LeO.bind ?_ (fun _ => ?_))
   | exact ih0 _ _ _ _ _ _ _
   | exact impl_members.mono _ _
   | exact LeO.none _
   | refine LeO.ite ?_ ?_
   | refine LeO.bind ?_ (fun _ => ?_)
set_option maxRecDepth 100000 in
set_option maxHeartbeats 20000000 in
theorem impl_Order_choice.ac (k : Nat) (a0_0 : Int) (l0_1 : List Int) (a1 : Int) (r : Int) (h : impl_Order_choice.f k a0_0 l0_1 a1 = some r) :
  ACalls Tryd.prog 83 [.agg [.lit (.int .i64 a0_0), .row 1 l0_1.length false (ints .i64 l0_1)], .lit (.int .i64 a1)] [] (fun v H' => v = .lit (.int .i64 r) ∧ H' = []) := by
 refine ACalls.ofP [4] Tryd.func83 rfl (by exact Nat.le_of_ble_eq_true rfl) rfl (by decide) ?_
 simp only [Tryd.ntmps83, env0, impl_Order_choice.f] at h ⊢
 pl_ h
 refine AWp.seq ?_
 refine AWp.region ?_
 refine L.M M.bx ?_
 refine L.Y Y.asg ?_
 refine AList.nil ?_
 refine AWp.seq ?_
 refine AWp.region ?_
 refine L.Y Y.asg ?_
 refine AList.nil ?_
 refine AWp.seq ?_
 refine AWp.seq ?_
 refine AWp.region ?_
 refine L.Y Y.mv ?_
 pl_ h
 obtain ⟨t281, hc1, h⟩ := Option.bind_eq_some_iff.1 h
 pl_ h
 refine L.C (C.callE (l := true) [] Tryd.func89 (impl_members.ac _ _ _ hc1) .nil ?_)
 refine L.Y (Y.ln Tryd.underlying22) ?_
 refine L.Y Y.mv ?_
 refine AList.nil ?_
 refine AWp.block ?_
 pl_ h
 refine AWp.loopI (fun kk e H => kk ≤ k ∧ ∃ (x1 : Int) (x5 : Int) (x9 : List Int) (x10 : Int) (x11 : Int) (x281000 : Int), e = [(1, .lit (.int .i64 x1)), (2, .ptr 0 0), (5, .lit (.int .i64 x5)), (9, .own 1 x9.length), (10, .lit (.int .i64 x10)), (11, .lit (.int .i64 x11))] ∧ H = [.bx 30 [.lit (.int .i64 x281000), .row 1 l0_1.length false (ints .i64 l0_1)], .sl 3 1 x9.length false (ints .i64 x9)] ∧ impl_Order_choice.l0 kk x1 x5 x9 x10 x11 x281000 l0_1 = some r) (k := k)
  ⟨_, _, ⟨Nat.le_refl _, _, _, _, _, _, _, rfl, rfl, h⟩, IsPart.at [] [0, 1] base0 (H.c (H.c .nil)) (E.c (E.c (E.c (E.c (E.c (E.c .nil))))))⟩ ?_
 clear h
 rintro k2 e H ⟨hk3, x1, x5, x9, x10, x11, x281000, rfl, rfl, h⟩
 cases k2 with
 | zero => exact absurd h (by simp [impl_Order_choice.l0])
 | succ k2 =>
 simp only [impl_Order_choice.l0] at h
 pl_ h
 refine AWp.seq ?_
 refine AWp.region ?_
 refine L.Y Y.bin ?_
 refine AList.nil ?_
 refine AWp.seq ?_
 refine W.cond (fun hb => ?_) (fun hb => ?_)
 ·
  have hb4 := hb
  sb_ hb
  rw_ hb4 hb h
  pl_ h
  refine AWp.skip ?_
  refine AWp.seq ?_
  refine AWp.block ?_
  refine AWp.seq ?_
  refine AWp.region ?_
  refine L.Y (Y.ixo Tryd.underlying22 Y3) ?_
  refine L.S (S.ld Tryd.underlying3) ?_
  refine L.Y Y.asg ?_
  refine AList.nil ?_
  refine AWp.seq ?_
  refine AWp.region ?_
  refine L.Y (Y.fa (off := 1) Tryd.underlying30 Y22) ?_
  refine L.S (S.ld Tryd.underlying22) ?_
  refine L.Y Y.mv ?_
  refine L.Y (Y.ixr Tryd.underlying22 Y3) ?_
  refine L.S (S.ld Tryd.underlying3) ?_
  refine L.Y Y.mv ?_
  refine L.Y Y.bin ?_
  refine L.Y Y.bin ?_
  refine AList.nil ?_
  refine W.cond (fun hb => ?_) (fun hb => ?_)
  ·
   have hb5 := hb
   sb_ hb
   rw_ hb5 hb h
   pl_ h
   refine W.kp [1, 2, 5, 7, 9, 10, 11, 12, 22] ?_
   refine AWp.region ?_
   refine L.Y Y.mv ?_
   refine L.Y Y.mv ?_
   refine L.Y Y.bin ?_
   refine L.Y Y.bin ?_
   refine L.Y Y.asg ?_
   refine AList.nil ?_
   refine W.kp [1, 2, 5, 7, 9, 10, 11, 12, 22] ?_
   refine AWp.region ?_
   refine L.Y Y.bin ?_
   refine L.Y Y.mv ?_
   refine AList.nil ?_
   pl_ h
   exact ⟨k2, by omega, _, _, ⟨by omega, _, _, _, _, _, _, rfl, rfl, h⟩, IsPart.at [] [0, 1] base0 (H.c (H.c .nil)) (E.c (E.c (E.c (E.c (E.c (E.c .nil))))))⟩
  ·
   have hb5 := hb
   sb_ hb
   rw_ hb5 hb h
   pl_ h
   refine AWp.skip ?_
   refine W.kp [1, 2, 5, 7, 9, 10, 11, 12, 22] ?_
   refine AWp.region ?_
   refine L.Y Y.bin ?_
   refine L.Y Y.mv ?_
   refine AList.nil ?_
   pl_ h
   exact ⟨k2, by omega, _, _, ⟨by omega, _, _, _, _, _, _, rfl, rfl, h⟩, IsPart.at [] [0, 1] base0 (H.c (H.c .nil)) (E.c (E.c (E.c (E.c (E.c (E.c .nil))))))⟩
 ·
  have hb4 := hb
  sb_ hb
  rw_ hb4 hb h
  pl_ h
  refine AWp.exit ?_
  refine AWp.seq ?_
  refine AWp.region ?_
  refine L.Y Y.mv ?_
  refine L.Y Y.asg ?_
  refine AList.nil ?_
  pl_ h
  obtain rfl := Option.some.inj h
  refine AWp.ret ?_
  exact ⟨.inr rfl, [(4, _)], _, ⟨rfl, rfl⟩, IsPart.at [] [] base0 .nil (E.c .nil)⟩

/-! ### impl_ChoiceOf: function 24 -/
def impl_ChoiceOf.f (k : Nat) (a0_0 : Int) (l0_1 : List Int) (a1 : Int) : Option (Int × Bool) := (impl_IsRelation.f k a0_0 l0_1).bind fun t287 => (if t287 = true then ((impl_Order_all.f a0_0 l0_1).bind fun t288 => ((impl_within.f a1 0 t288).bind fun t289 => (if t289 = true then ((impl_Order_choice.f k a0_0 l0_1 a1).bind fun t290 => (some (t290, true))) else (some (0, false))))) else (some (0, false)))
theorem impl_ChoiceOf.mono : ∀ a0 a1 a2 k, LeO (impl_ChoiceOf.f k a0 a1 a2) (impl_ChoiceOf.f (k + 1) a0 a1 a2) := by
 intro a0 a1 a2 k
 unfold impl_ChoiceOf.f
 repeat' first
   | (with_reducible exact impl_IsRelation.mono _ _ _)
   | (with_reducible exact impl_Order_choice.mono _ _ _ _)
   | (with_reducible exact LeO.refl _)
   | (with_reducible exact LeO.none _)
   | (with_reducible refine LeO.ite ?_ ?_)
   | (with_reducible refine LeO.bind ?_ (fun _ => ?_))
   | exact impl_IsRelation.mono _ _ _
   | exact impl_Order_choice.mono _ _ _ _
   | exact LeO.none _
   | refine LeO.ite ?_ ?_
   | refine LeO.bind ?_ (fun _ => ?_)
set_option maxRecDepth 100000 in
set_option maxHeartbeats 20000000 in
theorem impl_ChoiceOf.ac (k : Nat) (a0_0 : Int) (l0_1 : List Int) (a1 : Int) (r1 : Int) (r2 : Bool) (h : impl_ChoiceOf.f k a0_0 l0_1 a1 = some (r1, r2)) :
  ACalls Tryd.prog 24 [.agg [.lit (.int .i64 a0_0), .row 1 l0_1.length false (ints .i64 l0_1)], .lit (.int .i64 a1)] [] (fun v H' => v = .tup [.lit (.int .i64 r1), .lit (.bool r2)] ∧ H' = []) := by
 refine ACalls.ofP [4, 5] Tryd.func24 rfl (by exact Nat.le_of_ble_eq_true rfl) rfl (by decide) ?_
 simp only [Tryd.ntmps24, env0, impl_ChoiceOf.f] at h ⊢
 pl_ h
 refine AWp.seq ?_
 refine AWp.region ?_
 refine L.M M.bx ?_
 refine L.Y Y.asg ?_
 refine L.Y Y.asg ?_
 refine AList.nil ?_
 refine AWp.seq ?_
 refine AWp.seq ?_
 refine AWp.region ?_
 refine L.S (S.ldN Tryd.underlying30 Y30) ?_
 pl_ h
 obtain ⟨t287, hc1, h⟩ := Option.bind_eq_some_iff.1 h
 pl_ h
 refine L.C (C.callE (l := true) [] Tryd.func28 (impl_IsRelation.ac _ _ _ _ hc1) .nil ?_)
 refine L.Y Y.nt ?_
 refine L.Y Y.mv ?_
 refine L.Gc (fun hb => ?_) (fun hb => ?_)
 ·
  have hb2 := hb
  sb_ hb
  rw_ hb2 hb h
  pl_ h
  refine L.Gn hb2 ?_
  refine L.Gn hb2 ?_
  refine L.Gn hb2 ?_
  refine L.Gn hb2 ?_
  refine L.Gn hb2 ?_
  refine L.Y (Y.pk (c := true) hb2) ?_
  refine AList.nil ?_
  refine W.cond (fun hb => ?_) (fun hb => ?_)
  rotate_left
  ·
   dd_ hb
  have hb3 := hb
  refine AWp.seq ?_
  refine W.kp [0, 1, 2, 4, 5, 15] ?_
  refine AWp.region ?_
  refine L.Y Y.asg ?_
  refine L.Y Y.asg ?_
  refine AList.nil ?_
  pl_ h
  simp only [Option.some.injEq, Prod.mk.injEq] at h
  obtain ⟨rfl, rfl⟩ := h
  refine AWp.ret ?_
  exact ⟨.inr rfl, [(4, _), (5, _)], _, ⟨rfl, rfl⟩, IsPart.at [] [] base0 .nil (E.c (E.c .nil))⟩
 ·
  have hb2 := hb
  sb_ hb
  rw_ hb2 hb h
  pl_ h
  refine L.Gy hb2 Y.mv ?_
  refine L.Gs hb2 (S.ldN Tryd.underlying30 Y30) ?_
  pl_ h
  obtain ⟨t288, hc4, h⟩ := Option.bind_eq_some_iff.1 h
  pl_ h
  refine L.GC hb2 (C.callE (l := true) [] Tryd.func82 (impl_Order_all.ac _ _ _ hc4) .nil ?_)
  pl_ h
  obtain ⟨t289, hc5, h⟩ := Option.bind_eq_some_iff.1 h
  pl_ h
  refine L.GC hb2 (C.callE (l := true) [] Tryd.func68 (impl_within.ac _ _ _ _ hc5) .nil ?_)
  refine L.Gy hb2 Y.nt ?_
  refine L.Y (Y.pk (c := false) hb2) ?_
  refine AList.nil ?_
  refine W.cond (fun hb => ?_) (fun hb => ?_)
  ·
   have hb6 := hb
   sb_ hb
   rw_ hb6 hb h
   pl_ h
   refine AWp.seq ?_
   refine W.kp [0, 1, 2, 4, 5, 15] ?_
   refine AWp.region ?_
   refine L.Y Y.asg ?_
   refine L.Y Y.asg ?_
   refine AList.nil ?_
   pl_ h
   simp only [Option.some.injEq, Prod.mk.injEq] at h
   obtain ⟨rfl, rfl⟩ := h
   refine AWp.ret ?_
   exact ⟨.inr rfl, [(4, _), (5, _)], _, ⟨rfl, rfl⟩, IsPart.at [] [] base0 .nil (E.c (E.c .nil))⟩
  ·
   have hb6 := hb
   sb_ hb
   rw_ hb6 hb h
   pl_ h
   refine AWp.skip ?_
   refine AWp.seq ?_
   refine W.kp [0, 1, 2, 4, 5, 15] ?_
   refine AWp.region ?_
   refine L.S (S.ldN Tryd.underlying30 Y30) ?_
   refine L.Y Y.mv ?_
   pl_ h
   obtain ⟨t290, hc7, h⟩ := Option.bind_eq_some_iff.1 h
   pl_ h
   refine L.C (C.callE (l := true) [] Tryd.func83 (impl_Order_choice.ac _ _ _ _ _ hc7) .nil ?_)
   refine L.Y Y.asg ?_
   refine L.Y Y.asg ?_
   refine AList.nil ?_
   pl_ h
   simp only [Option.some.injEq, Prod.mk.injEq] at h
   obtain ⟨rfl, rfl⟩ := h
   refine AWp.ret ?_
   exact ⟨.inr rfl, [(4, _), (5, _)], _, ⟨rfl, rfl⟩, IsPart.at [] [] base0 .nil (E.c (E.c .nil))⟩

/-! ### spec_orList: function 124 -/
def spec_orList.l0 : Nat → Int → List Int → Int → Option (List Int)
 | 0, _, _, _ => none
 | k + 1, x0, x3, x4 => if 0 ≤ x4 then (if (shr .i64 x0 x4) > 0 then ((spec_orHas.f x0 x4).bind fun t291 => (if t291 = true then (if x3.length < 17592186044416 then (spec_orList.l0 k x0 (x3 ++ [x4]) (wrap64 (x4 + 1))) else (none)) else (spec_orList.l0 k x0 x3 (wrap64 (x4 + 1))))) else (some x3)) else (none)
def spec_orList.f (k : Nat) (a0 : Int) : Option (List Int) := spec_orList.l0 k a0 ([] : List Int) 0
theorem spec_orList.mono_l : ∀ k, (∀ y0 y1 y2, LeO (spec_orList.l0 k y0 y1 y2) (spec_orList.l0 (k + 1) y0 y1 y2))
 | 0 => fun _ _ _ r h => by simp [spec_orList.l0] at h
 | k + 1 => by
  have ih0 := spec_orList.mono_l k
  ·
   intro y0 y1 y2
   unfold spec_orList.l0
   repeat' first
   | (with_reducible exact ih0 _ _ _)
   | (with_reducible exact LeO.refl _)
   | (with_reducible exact LeO.none _)
   | (with_reducible refine LeO.ite ?_ ?_)
   | (with_reducible refine LeO.bind ?_ (fun _ => ?_))
   | exact ih0 _ _ _
   | exact LeO.none _
   | refine LeO.ite ?_ ?_
   | refine LeO.bind ?_ (fun _ => ?_)
theorem spec_orList.mono : ∀ a0 k, LeO (spec_orList.f k a0) (spec_orList.f (k + 1) a0) := by
 intro a0 k
 have ih0 := spec_orList.mono_l k
 unfold spec_orList.f
 repeat' first
   | (with_reducible exact ih0 _ _ _)
   | (with_reducible exact LeO.refl _)
   | (with_reducible exact LeO.none _)
   | (with_reducible refine LeO.ite ?_ ?_)
   | (with_reducible refine LeO.bind ?_ (fun _ => ?_))
   | exact ih0 _ _ _
   | exact LeO.none _
   | refine LeO.ite ?_ ?_
   | refine LeO.bind ?_ (fun _ => ?_)
set_option maxRecDepth 100000 in
set_option maxHeartbeats 20000000 in
theorem spec_orList.ac (k : Nat) (a0 : Int) (r : List Int) (h : spec_orList.f k a0 = some r) :
  ACalls Tryd.prog 124 [.lit (.int .i64 a0)] [] (fun v H' => v = .own 0 r.length ∧ H' = [.sl 3 1 r.length false (ints .i64 r)]) := by
 refine ACalls.ofP [2] Tryd.func124 rfl (by exact Nat.le_of_ble_eq_true rfl) rfl (by decide) ?_
 simp only [Tryd.ntmps124, env0, spec_orList.f] at h ⊢
 pl_ h
 refine AWp.seq ?_
 refine AWp.region ?_
 refine L.Y Y.asg ?_
 refine AList.nil ?_
 refine AWp.seq ?_
 refine AWp.region ?_
 refine L.Y Y.asg ?_
 refine AList.nil ?_
 refine AWp.seq ?_
 refine AWp.seq ?_
 refine AWp.region ?_
 refine L.Y Y.asg ?_
 refine AList.nil ?_
 refine AWp.block ?_
 pl_ h
 refine AWp.loopI (fun kk e H => kk ≤ k ∧ ∃ (x0 : Int) (x3 : List Int) (x4 : Int), e = [(0, .lit (.int .i64 x0)), (2, .lit (.slice none 0 0)), (3, .own 0 x3.length), (4, .lit (.int .i64 x4))] ∧ H = [.sl 3 1 x3.length false (ints .i64 x3)] ∧ spec_orList.l0 kk x0 x3 x4 = some r) (k := k)
  ⟨_, _, ⟨Nat.le_refl _, _, _, _, rfl, rfl, h⟩, IsPart.at [(3, 1)] [0] base0 (H.c .nil) (E.c (E.c (E.c (E.c .nil))))⟩ ?_
 clear h
 rintro k1 e H ⟨hk2, x0, x3, x4, rfl, rfl, h⟩
 cases k1 with
 | zero => exact absurd h (by simp [spec_orList.l0])
 | succ k1 =>
 simp only [spec_orList.l0] at h
 pl_ h
 refine AWp.seq ?_
 refine AWp.seq ?_
 refine AWp.region ?_
 refine L.Y Y.mv ?_
 refine L.Y Y.mv ?_
 refine L.Y Y.bin ?_
 refine L.Y Y.bin ?_
 refine AList.nil ?_
 refine W.cond (fun hb => ?_) (fun hb => ?_)
 ·
  have hb3 := hb
  sb_ hb
  rw_ hb3 hb h
  pl_ h
  refine AWp.skip ?_
  refine AWp.seq ?_
  refine AWp.block ?_
  refine AWp.seq ?_
  refine AWp.region ?_
  refine L.Y Y.mv ?_
  refine L.Y Y.mv ?_
  pl_ h
  obtain ⟨t291, hc4, h⟩ := Option.bind_eq_some_iff.1 h
  pl_ h
  refine L.C (C.callE (l := true) [] Tryd.func67 (spec_orHas.ac _ _ _ hc4) .nil ?_)
  refine AList.nil ?_
  refine W.cond (fun hb => ?_) (fun hb => ?_)
  ·
   have hb5 := hb
   sb_ hb
   rw_ hb5 hb h
   pl_ h
   refine W.kp [0, 2, 3, 4, 8, 13] ?_
   refine AWp.region ?_
   refine L.Y Y.mv ?_
   refine L.Y Y.mv ?_
   refine L.M (M.bs Tryd.underlying22 Y3) ?_
   refine L.S (S.ap (nn' := false) Tryd.underlying22 Y3) ?_
   refine L.Y Y.asg ?_
   refine AList.nil ?_
   refine W.kp [0, 2, 3, 4, 8, 13] ?_
   refine AWp.region ?_
   refine L.Y Y.mv ?_
   refine L.Y Y.bin ?_
   refine L.Y Y.asg ?_
   refine AList.nil ?_
   pl_ h
   exact ⟨k1, by omega, _, _, ⟨by omega, _, _, _, rfl, rfl, h⟩, IsPart.at [] [0] base0 (H.c .nil) (E.c (E.c (E.c (E.c .nil))))⟩
  ·
   have hb5 := hb
   sb_ hb
   rw_ hb5 hb h
   pl_ h
   refine AWp.skip ?_
   refine W.kp [0, 2, 3, 4, 8, 13] ?_
   refine AWp.region ?_
   refine L.Y Y.mv ?_
   refine L.Y Y.bin ?_
   refine L.Y Y.asg ?_
   refine AList.nil ?_
   pl_ h
   exact ⟨k1, by omega, _, _, ⟨by omega, _, _, _, rfl, rfl, h⟩, IsPart.at [] [0] base0 (H.c .nil) (E.c (E.c (E.c (E.c .nil))))⟩
 ·
  have hb3 := hb
  sb_ hb
  rw_ hb3 hb h
  pl_ h
  refine AWp.exit ?_
  refine AWp.seq ?_
  refine AWp.region ?_
  refine L.Y Y.mv ?_
  refine L.Y Y.asg ?_
  refine AList.nil ?_
  pl_ h
  obtain rfl := Option.some.inj h
  refine AWp.ret ?_
  exact ⟨.inr rfl, [(2, _)], _, ⟨rfl, rfl⟩, IsPart.at [] [0] base0 (H.c .nil) (E.c .nil)⟩

end Go.Proofs.YtpippjgphndjmaaDoor.PFnChoicesOfOrders
