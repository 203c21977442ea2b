-- Written by a program of this session's (wip/myprint2): the functions by the kit's print, the walks by awgen.py. Lean checks it.
import Derived.Test.YtpippjgphndjmaaDoorPFnRationalTablesx0
import Derived.Test.YtpippjgphndjmaaDoorPFnRationalTablesx1
import Derived.Test.YtpippjgphndjmaaDoorPFnRationalTablesx6
namespace Go.Proofs.YtpippjgphndjmaaDoor.PFnRationalTables
open Go.RowKit Go.Proofs.YtpippjgphndjmaaDoorW.PrintWords Go.Proofs.YtpippjgphndjmaaDoorW.PrintLast Go.Proofs.YtpippjgphndjmaaDoorW.PrintMore Go.Proofs.YtpippjgphndjmaaDoorM Go.Proofs.YtpippjgphndjmaaDoorA Go.Proofs.YtpippjgphndjmaaDoorT
attribute [local go_sem] max2_int min2_int max_two min_two max_three min_three max_four min_four   -- for this text's walks alone
set_option linter.unusedVariables false
set_option linter.unusedSimpArgs false

/-! ### spec_DrawIsChoiceTable: function 105 -/
def spec_DrawIsChoiceTable.f (k : Nat) (l0 : List Int) : Option (Int × List Int) := (spec_l1Cur_chosen.f k l0 0 0).bind fun bt303 => (some (bt303.1, bt303.2.1))
set_option maxRecDepth 100000 in
set_option maxHeartbeats 20000000 in
theorem spec_DrawIsChoiceTable.ac (k : Nat) (l0 : List Int) (r1 : Int) (r2 : List Int) (h : spec_DrawIsChoiceTable.f k l0 = some (r1, r2)) :
  ACalls Tryd.prog 105 [.row 1 l0.length false (ints .u8 l0)] [] (fun v H' => v = .tup [.lit (.int .i64 r1), .own 0 r2.length] ∧ H' = [.sl 3 1 r2.length false (ints .i64 r2)]) := by
 refine ACalls.ofP [2, 3] Tryd.func105 rfl (by exact Nat.le_of_ble_eq_true rfl) rfl (by decide) ?_
 simp only [Tryd.ntmps105, env0, spec_DrawIsChoiceTable.f] at h ⊢
 refine AWp.seq ?_
 refine AWp.region ?_
 refine L.Y Y.asg ?_
 refine L.Y Y.asg ?_
 refine AList.nil ?_
 refine AWp.seq ?_
 refine AWp.region ?_
 refine L.Y Y.mv ?_
 refine L.Y (Y.bd Tryd.underlying82 Y82 P82) ?_
 refine L.M M.bx ?_
 refine L.Y Y.asg ?_
 refine AList.nil ?_
 refine AWp.seq ?_
 refine AWp.region ?_
 refine L.Y Y.mv ?_
 obtain ⟨⟨t303, t304, t307, t308⟩, hc1, h⟩ := Option.bind_eq_some_iff.1 h
 dsimp only at h
 refine L.C (C.callE (l := false) [0] Tryd.func137 (spec_l1Cur_chosen.ac _ _ _ _ _ _ _ _ hc1) (H.c .nil) ?_)
 refine L.Y Y.ex ?_
 refine L.Y Y.ex ?_
 refine L.Y Y.asg ?_
 refine L.Y Y.asg ?_
 refine AList.nil ?_
 simp only [Option.some.injEq, Prod.mk.injEq] at h
 obtain ⟨rfl, rfl⟩ := h
 refine AWp.ret ?_
 exact ⟨.inr rfl, [(2, _), (3, _)], _, ⟨rfl, rfl⟩, IsPart.at [] [1] base0 (H.c .nil) (E.c (E.c .nil))⟩

/-! ### spec_DrawIsRational: function 47 -/
def spec_DrawIsRational.f (k : Nat) (l0 : List Int) : Option (Int × List Int) := (spec_DrawIsChoiceTable.f k l0).bind fun bt309 => (some (bt309.1, bt309.2))
set_option maxRecDepth 100000 in
set_option maxHeartbeats 20000000 in
theorem spec_DrawIsRational.ac (k : Nat) (l0 : List Int) (r1 : Int) (r2 : List Int) (h : spec_DrawIsRational.f k l0 = some (r1, r2)) :
  ACalls Tryd.prog 47 [.row 1 l0.length false (ints .u8 l0)] [] (fun v H' => v = .tup [.lit (.int .i64 r1), .own 0 r2.length] ∧ H' = [.sl 3 1 r2.length false (ints .i64 r2)]) := by
 refine ACalls.ofP [2, 3] Tryd.func47 rfl (by exact Nat.le_of_ble_eq_true rfl) rfl (by decide) ?_
 simp only [Tryd.ntmps47, env0, spec_DrawIsRational.f] at h ⊢
 refine AWp.seq ?_
 refine AWp.region ?_
 refine L.Y Y.asg ?_
 refine L.Y Y.asg ?_
 refine AList.nil ?_
 refine AWp.seq ?_
 refine AWp.region ?_
 refine L.Y Y.mv ?_
 obtain ⟨⟨t309, t310⟩, hc1, h⟩ := Option.bind_eq_some_iff.1 h
 dsimp only at h
 refine L.C (C.callE (l := true) [] Tryd.func105 (spec_DrawIsChoiceTable.ac _ _ _ _ hc1) .nil ?_)
 refine L.Y Y.ex ?_
 refine L.Y Y.ex ?_
 refine L.Y Y.asg ?_
 refine L.Y Y.asg ?_
 refine AList.nil ?_
 simp only [Option.some.injEq, Prod.mk.injEq] at h
 obtain ⟨rfl, rfl⟩ := h
 refine AWp.ret ?_
 exact ⟨.inr rfl, [(2, _), (3, _)], _, ⟨rfl, rfl⟩, IsPart.at [] [0] base0 (H.c .nil) (E.c (E.c .nil))⟩

/-! ### slices_Clone_int_int: function 133 -/
def slices_Clone_int_int.f (l0 : List Int) : Option (List Int) := if l0.length * 8 ≤ 140737488355328 then some l0 else none
def slices_Clone_int_int.ren : Go.Shelf.Ren := ⟨fun | 15 => 133 | n => n, fun | 3 => 3 | 4 => 4 | 22 => 22 | n => n, fun n => n⟩
theorem slices_Clone_int_int.lays : Go.Proofs.Lays2.n15 Tryd.prog slices_Clone_int_int.ren where
 mixed := by kernel_rfl
 f15 := Tryd.func133.trans (congrArg some (by kernel_rfl))
 t3 := Tryd.underlying3
 a3 := Tryd.isAgg3
 z3 := Tryd.sizeOf3
 v3 := Tryd.zeroValue3
 t4 := Tryd.underlying4
 a4 := Tryd.isAgg4
 z4 := Tryd.sizeOf4
 v4 := Tryd.zeroValue4
 t22 := Tryd.underlying22
 a22 := Tryd.isAgg22
 z22 := Tryd.sizeOf22
 v22 := Tryd.zeroValue22
 i3 := by kernel_rfl
theorem slices_Clone_int_int.row {w : World} {v : Value} {base : Nat} {xs : List Int} (h : w.ownsRow base 3 1 v xs.length (xs.map (Value.int .i64))) : Kd.R (Kd.int .i64) 3 w base (fun _ => True) v xs := by
 refine ⟨fun _ _ => trivial, xs.map (Value.int .i64), h, ⟨by simp [Kd.int, Kd.scalar], fun j p hj => ?_⟩⟩
 show ((xs.map (Value.int .i64)).drop (j * 1)).take 1 = [Value.int .i64 p]
 obtain ⟨hl, rfl⟩ := List.getElem?_eq_some_iff.1 hj
 rw [Nat.mul_one, List.drop_eq_getElem_cons (by simpa using hl)]
 simp
theorem slices_Clone_int_int.calls (A0 : Option Addr) (c0 : Nat) (l0 : List Int) (r : List Int) (w : World) (hr0 : Kd.C (Kd.int .i64) w A0 l0.length l0) (hc0 : l0.length ≤ c0) (h : slices_Clone_int_int.f l0 = some r) :
  Calls Tryd.prog 133 #[.slice A0 l0.length c0] w fun e w' => ∃ v0_ : Value, e = .returned (v0_) ∧ Kd.R (Kd.int .i64) 3 w' w.heap.size (fun _ => True) v0_ r ∧ Below w.heap.size w w' := by
 unfold slices_Clone_int_int.f at h
 by_cases hb : l0.length * 8 ≤ 140737488355328
 ·
  rw [if_pos hb] at h
  injection h with h
  subst h
  obtain ⟨_, _, hcell⟩ := hr0
  cases A0 with
  | none =>
   have h0 : l0 = [] := by
    apply List.eq_nil_of_length_eq_zero
    apply Nat.eq_zero_of_not_pos
    intro hp
    obtain ⟨ad, e, _⟩ := hcell hp
    cases e
   refine (Any.slices_Clone_int_nil slices_Clone_int_int.lays l0.length c0 w).mono ?_
   rintro e w' ⟨rfl, rfl⟩
   refine ⟨_, rfl, ?_, Below.refl _ _⟩
   rw [h0]
   exact Kd.R_nil _ _ _ _ _
  | some ad =>
   by_cases hp : 0 < l0.length
   ·
    obtain ⟨ad', e, hc⟩ := hcell hp
    cases e
    have hcc : ∀ j, j < l0.length → w.cell? (ad.add j) = some (.int .i64 (l0.getD j 0)) := by
     intro j hj
     obtain ⟨c, hlen, hk, hcells⟩ := hc j l0[j] (List.getElem?_eq_getElem hj)
     have hk' : c = [Value.int .i64 l0[j]] := hk
     have t : w.cell? (ad.add (j * 1 + 0)) = some (Value.int .i64 l0[j]) := hcells 0 (Value.int .i64 l0[j]) (by rw [hk']; rfl)
     rw [Nat.mul_one, Nat.add_zero] at t
     rw [List.getD_eq_getElem?_getD, List.getElem?_eq_getElem hj]
     exact t
    obtain ⟨b, off, spot⟩ := ad
    have hspot : spot = none := by
     have h1 : w.cell? ⟨b, off, spot⟩ = some (.int .i64 (l0.getD 0 0)) := hcc 0 hp
     cases spot with
     | none => rfl
     | some s =>
      simp only [World.cell?] at h1
      split at h1
      ·
       simp at h1
      ·
       cases h1
    subst hspot
    have hc3 : ∀ j, j < l0.length → w.cell? ⟨b, off + j, none⟩ = some (.int .i64 (l0.getD j 0)) := by
     intro j hj
     have := hcc j hj
     rw [Addr.add_lit] at this
     exact this
    refine (Any.slices_Clone_int slices_Clone_int_int.lays b off l0.length c0 l0 w (Nat.le_refl _) hb hc3).mono ?_
    rintro e w' ⟨v', rfl, ho, _, hb'⟩
    refine ⟨v', rfl, slices_Clone_int_int.row ?_, hb'⟩
    have : l0.take l0.length = l0 := List.take_length
    rw [this] at ho
    exact ho
   ·
    have h0 : l0 = [] := List.eq_nil_of_length_eq_zero (by omega)
    subst h0
    refine (Any.slices_Clone_int_zero slices_Clone_int_int.lays ad c0 w).mono ?_
    rintro e w' ⟨v', rfl, ho, _, hb'⟩
    exact ⟨v', rfl, slices_Clone_int_int.row ho, hb'⟩
 ·
  rw [if_neg hb] at h
  cases h
theorem slices_Clone_int_int.ac (l0 : List Int) (r : List Int) (h : slices_Clone_int_int.f l0 = some r) : ACalls Tryd.prog 133 [.row 1 l0.length false (ints .i64 l0)] [] (fun v H' => v = .own 0 r.length ∧ H' = [.sl 3 1 r.length false (ints .i64 r)]) := by
 unfold slices_Clone_int_int.f at h
 by_cases hb : l0.length * 8 ≤ 140737488355328
 ·
  rw [if_pos hb] at h
  injection h with h
  subst h
  intro R F A w vs hi hvs
  match vs, hvs with
  | [], hvs => simp [VRs] at hvs
  | [c], hvs =>
   simp only [VRs, and_true] at hvs
   rcases VR.ints_cells hvs with ⟨rfl, h0⟩ | ⟨a, cap, rfl, hc, hcell⟩
   ·
    subst h0
    refine (Any.slices_Clone_int_nil slices_Clone_int_int.lays 0 0 w).mono ?_
    rintro e w' ⟨rfl, rfl⟩
    exact CallPost.fresh (vs := []) hi rfl (World.ownsRow_nil _ _ _ _) (Below.refl _ _) (fun _ _ _ _ => by simp [VRs, ints])
   ·
    by_cases hp : 0 < l0.length
    ·
     obtain ⟨b, off, rfl, _, hcc⟩ := hcell hp
     refine (Any.slices_Clone_int slices_Clone_int_int.lays b off l0.length cap l0 w (Nat.le_refl _) hb hcc).mono ?_
     rintro e w' ⟨v', rfl, ho, _, hb'⟩
     have ht : l0.take l0.length = l0 := List.take_length
     rw [ht] at ho
     exact CallPost.fresh hi rfl ho hb' (fun _ _ _ _ => VRs_ints .i64 l0)
    ·
     have h0 : l0 = [] := List.eq_nil_of_length_eq_zero (by omega)
     subst h0
     refine (Any.slices_Clone_int_zero slices_Clone_int_int.lays a cap w).mono ?_
     rintro e w' ⟨v', rfl, ho, _, hb'⟩
     exact CallPost.fresh hi rfl ho hb' (fun _ _ _ _ => by simp [VRs, ints])
  | _ :: _ :: _, hvs => simp [VRs] at hvs
 ·
  rw [if_neg hb] at h
  cases h

/-! ### impl_Order_closed: function 128 -/
mutual
def impl_Order_closed.l0 : Nat → Int → Int → Int → List Int → Int → List Int → Option (Int × List Int)
 | 0, _, _, _, _, _, _ => none
 | k + 1, x13, x14, x314000, x314001, x319000, x319001 => if x14 < x13 then (impl_Order_closed.l1 k x14 x13 x14 x314000 0 x314000 x314001 x319000 x319001) else (some (x319000, x319001))
def impl_Order_closed.l1 : Nat → Int → Int → Int → Int → Int → Int → List Int → Int → List Int → Option (Int × List Int)
 | 0, _, _, _, _, _, _, _, _, _ => none
 | k + 1, x4, x13, x14, x18, x19, x314000, x314001, x319000, x319001 => if x19 < x18 then ((impl_Order_better.f x319000 x319001 x19 x4).bind fun t319 => (if t319 = true then (if 0 ≤ x19 then (if x19 < (x319001.length : Int) then (if 0 ≤ x4 then (if x4 < (x319001.length : Int) then (impl_Order_closed.l1 k x4 x13 x14 x18 (wrap64 (x19 + 1)) x314000 x314001 x319000 (x319001.set (x19 : Int).toNat (Go.bits .or .i64 (rd x319001 x19) (rd x319001 x4)))) else (none)) else (none)) else (none)) else (none)) else (impl_Order_closed.l1 k x4 x13 x14 x18 (wrap64 (x19 + 1)) x314000 x314001 x319000 x319001))) else (impl_Order_closed.l0 k x13 (wrap64 (x14 + 1)) x314000 x314001 x319000 x319001)
end
def impl_Order_closed.f (k : Nat) (a0_0 : Int) (l0_1 : List Int) : Option (Int × List Int) := (slices_Clone_int_int.f l0_1).bind fun t315 => (impl_Order_closed.l0 k a0_0 0 a0_0 l0_1 a0_0 t315)
set_option maxRecDepth 100000 in
set_option maxHeartbeats 20000000 in
theorem impl_Order_closed.ac (k : Nat) (a0_0 : Int) (l0_1 : List Int) (r1 : Int) (r2 : List Int) (h : impl_Order_closed.f k a0_0 l0_1 = some (r1, r2)) :
  ACalls Tryd.prog 128 [.agg [.lit (.int .i64 a0_0), .row 1 l0_1.length false (ints .i64 l0_1)]] [] (fun v H' => v = .agg [.lit (.int .i64 r1), .own 0 r2.length] ∧ H' = [.sl 3 1 r2.length false (ints .i64 r2)]) := by
 refine ACalls.ofV Tryd.func128 rfl (by exact Nat.le_of_ble_eq_true rfl) ?_
 simp only [Tryd.ntmps128, env0, impl_Order_closed.f] at h ⊢
 refine AWp.seq ?_
 refine AWp.region ?_
 refine L.M M.bx ?_
 refine L.M (M.al Y30) ?_
 refine AList.nil ?_
 refine AWp.seq ?_
 obtain ⟨t315, hc1, h⟩ := Option.bind_eq_some_iff.1 h
 apply AWp.joinX
 ·
  refine Dt.reg [] [7] (.y 0 (.t 1 (.y 2 (.t 3 (.two 4 (.y 5 (.one 6 (.last 7 .done))) 6 (.one 4 (.y 5 (.last 7 .done)))))))) HM ?_
  refine Dt.Y rfl wantN (Y.fa (off := 0) Tryd.underlying30 Y3) ?_
  refine Dt.T rfl wantN (D.ld Tryd.underlying3) ?_
  refine Dt.Y rfl wantN (Y.fa (off := 1) Tryd.underlying30 Y22) ?_
  refine Dt.T rfl wantN (D.ld Tryd.underlying22) ?_
  refine Dt.B (g1 := false) (g2 := false) rfl rfl wantN wantN ?_ ?_
  ·
   skip
   refine Ox.C true [] Tryd.func133 (slices_Clone_int_int.ac _ _ hc1) .nil ?_
   refine Dt.Y rfl wantN (Y.bd Tryd.underlying30 Y30 P30) ?_
   refine Dt.O (g' := false) rfl wantN ?_
   refine Ox.M (M.al Y30) ?_
   refine Dt.L rfl wantN ?_
   refine Op.S (S.stb Y30) ?_
   refine Du.nil ?_
   exact ⟨rfl, .inl ⟨rfl, rfl⟩⟩
  ·
   skip
   refine Ox.M (M.al Y30) ?_
   refine Dt.O (g' := false) rfl wantN ?_
   refine Ox.C true [] Tryd.func133 (slices_Clone_int_int.ac _ _ hc1) .nil ?_
   refine Dt.Y rfl wantN (Y.bd Tryd.underlying30 Y30 P30) ?_
   refine Dt.L rfl wantN ?_
   refine Op.S (S.stb Y30) ?_
   refine Du.nil ?_
   exact ⟨rfl, .inr (IsPart.at [] [0, 1, 3, 2] base0 (H.c (H.c (H.c (H.c .nil)))) (by repeat' first | exact .nil | refine E.c ?_))⟩
 ·
  skip
  refine AWp.seq ?_
  refine AWp.seq ?_
  refine W.kp [0, 1, 2, 3] ?_
  refine AWp.region ?_
  refine L.Y (Y.fa (off := 0) Tryd.underlying30 Y3) ?_
  refine L.S (S.ld Tryd.underlying3) ?_
  refine L.Y Y.mv ?_
  refine AList.nil ?_
  refine AWp.block ?_
  refine AWp.loopI (fun kk e H => kk ≤ k ∧ ∃ (x13 : Int) (x14 : Int) (x314000 : Int) (x315000 : Int) (x319000 : Int) (x319001 : List Int), e = [(1, .ptr 0 0), (2, .ptr 1 0), (3, .ptr 2 0), (13, .lit (.int .i64 x13)), (14, .lit (.int .i64 x14))] ∧ H = [.bx 30 [.lit (.int .i64 x314000), .row 1 l0_1.length false (ints .i64 l0_1)], .bx 30 [.lit (.int .i64 x315000), .lit (.slice none 0 0)], .bx 30 [.lit (.int .i64 x319000), .own 3 x319001.length], .sl 3 1 x319001.length false (ints .i64 x319001)] ∧ impl_Order_closed.l0 kk x13 x14 x314000 l0_1 x319000 x319001 = some (r1, r2)) (k := k)
   ⟨_, _, ⟨Nat.le_refl _, _, _, _, _, _, _, rfl, rfl, h⟩, IsPart.at [] [0, 1, 3, 2] base0 (H.c (H.c (H.c (H.c .nil)))) (E.c (E.c (E.c (E.c (E.c .nil)))))⟩ ?_
  clear h
  rintro k2 e H ⟨hk3, x13, x14, x314000, x315000, x319000, x319001, rfl, rfl, h⟩
  cases k2 with
  | zero => exact absurd h (by simp [impl_Order_closed.l0])
  | succ k2 =>
  simp only [impl_Order_closed.l0] at h
  refine AWp.seq ?_
  refine AWp.region ?_
  refine L.Y Y.bin ?_
  refine AList.nil ?_
  refine AWp.seq ?_
  refine W.cond (fun hb => ?_) (fun hb => ?_)
  ·
   have hb4 := hb
   try simp only [hS, hE, ne_eq] at hb
   first | rw [if_pos hb4] at h | rw [if_neg (Bool.eq_false_iff.1 hb4)] at h | rw [if_pos hb] at h | rw [if_neg hb] at h | (simp only [hb, hT, reduceIte] at h) | skip
   refine AWp.skip ?_
   refine AWp.seq ?_
   refine AWp.block ?_
   refine AWp.seq ?_
   refine AWp.region ?_
   refine L.Y Y.mv ?_
   refine L.Y Y.asg ?_
   refine AList.nil ?_
   refine AWp.seq ?_
   refine AWp.region ?_
   refine L.Y (Y.fa (off := 0) Tryd.underlying30 Y3) ?_
   refine L.S (S.ld Tryd.underlying3) ?_
   refine L.Y Y.mv ?_
   refine AList.nil ?_
   refine AWp.block ?_
   refine AWp.loopI (fun kk e H => kk ≤ k2 ∧ ∃ (x4 : Int) (x13 : Int) (x14 : Int) (x18 : Int) (x19 : Int) (x314000 : Int) (x315000 : Int) (x319000 : Int) (x319001 : List Int), e = [(1, .ptr 0 0), (2, .ptr 1 0), (3, .ptr 2 0), (4, .lit (.int .i64 x4)), (13, .lit (.int .i64 x13)), (14, .lit (.int .i64 x14)), (18, .lit (.int .i64 x18)), (19, .lit (.int .i64 x19))] ∧ H = [.bx 30 [.lit (.int .i64 x314000), .row 1 l0_1.length false (ints .i64 l0_1)], .bx 30 [.lit (.int .i64 x315000), .lit (.slice none 0 0)], .bx 30 [.lit (.int .i64 x319000), .own 3 x319001.length], .sl 3 1 x319001.length false (ints .i64 x319001)] ∧ impl_Order_closed.l1 kk x4 x13 x14 x18 x19 x314000 l0_1 x319000 x319001 = some (r1, r2)) (k := k2)
    ⟨_, _, ⟨Nat.le_refl _, _, _, _, _, _, _, _, _, _, rfl, rfl, h⟩, IsPart.at [] [0, 1, 2, 3] base0 (H.c (H.c (H.c (H.c .nil)))) (E.c (E.c (E.c (E.c (E.c (E.c (E.c (E.c .nil))))))))⟩ ?_
   clear h
   rintro k5 e H ⟨hk6, x4, x13, x14, x18, x19, x314000, x315000, x319000, x319001, rfl, rfl, h⟩
   cases k5 with
   | zero => exact absurd h (by simp [impl_Order_closed.l1])
   | succ k5 =>
   simp only [impl_Order_closed.l1] at h
   refine AWp.seq ?_
   refine AWp.region ?_
   refine L.Y Y.bin ?_
   refine AList.nil ?_
   refine AWp.seq ?_
   refine W.cond (fun hb => ?_) (fun hb => ?_)
   ·
    have hb7 := hb
    try simp only [hS, hE, ne_eq] at hb
    first | rw [if_pos hb7] at h | rw [if_neg (Bool.eq_false_iff.1 hb7)] at h | rw [if_pos hb] at h | rw [if_neg hb] at h | (simp only [hb, hT, reduceIte] at h) | skip
    refine AWp.skip ?_
    refine AWp.seq ?_
    refine AWp.block ?_
    refine AWp.seq ?_
    refine AWp.region ?_
    refine L.Y Y.mv ?_
    refine L.Y Y.asg ?_
    refine AList.nil ?_
    refine AWp.seq ?_
    refine AWp.region ?_
    refine L.S (S.ldN Tryd.underlying30 Y30) ?_
    refine L.Y Y.mv ?_
    refine L.Y Y.mv ?_
    obtain ⟨t319, hc8, h⟩ := Option.bind_eq_some_iff.1 h
    refine L.C (C.callE (l := true) [] Tryd.func73 (impl_Order_better.ac _ _ _ _ _ hc8) .nil ?_)
    refine AList.nil ?_
    refine W.cond (fun hb => ?_) (fun hb => ?_)
    ·
     have hb9 := hb
     try simp only [hS, hE, ne_eq] at hb
     first | rw [if_pos hb9] at h | rw [if_neg (Bool.eq_false_iff.1 hb9)] at h | rw [if_pos hb] at h | rw [if_neg hb] at h | (simp only [hb, hT, reduceIte] at h) | skip
     repeat (first | (rw [iN] at h; obtain ⟨_, h⟩ := h) | (rw [iP] at h; obtain ⟨_, h⟩ := h) | (simp only [bS] at h))
     refine W.kp [1, 2, 3, 4, 5, 13, 14, 18, 19, 20, 25] ?_
     refine Dt.reg [] [12] (.y 0 (.t 1 (.y 2 (.y 3 (.t 4 (.y 5 (.t 6 (.y 7 (.y 8 (.t 9 (.y 10 (.y 11 (.last 12 .done))))))))))))) HM ?_
     refine Dt.Y rfl wantN (Y.fa (off := 1) Tryd.underlying30 Y22) ?_
     refine Dt.T rfl wantN (D.ld Tryd.underlying22) ?_
     refine Dt.Y rfl wantN Y.mv ?_
     refine Dt.Y rfl wantN (Y.ixo Tryd.underlying22 Y3) ?_
     refine Dt.T rfl wantN (D.ld Tryd.underlying3) ?_
     refine Dt.Y rfl wantN (Y.fa (off := 1) Tryd.underlying30 Y22) ?_
     refine Dt.T rfl wantN (D.ld Tryd.underlying22) ?_
     refine Dt.Y rfl wantN Y.mv ?_
     refine Dt.Y rfl wantN (Y.ixo Tryd.underlying22 Y3) ?_
     refine Dt.T rfl wantN (D.ld Tryd.underlying3) ?_
     refine Dt.Y rfl wantN Y.bin ?_
     refine Dt.Y rfl wantN (Y.ixo Tryd.underlying22 Y3) ?_
     refine Dt.L rfl wantN ?_
     refine Op.S (S.sts Y3) ?_
     refine Du.nil ?_
     refine W.kp [1, 2, 3, 4, 5, 13, 14, 18, 19, 20, 25] ?_
     refine AWp.region ?_
     refine L.Y Y.bin ?_
     refine L.Y Y.mv ?_
     refine AList.nil ?_
     exact ⟨k5, by omega, _, _, ⟨by omega, _, _, _, _, _, _, _, _, _, rfl, rfl, h⟩, IsPart.at [] [0, 1, 2, 3] base0 (H.c (H.c (H.c (H.c .nil)))) (E.c (E.c (E.c (E.c (E.c (E.c (E.c (E.c .nil))))))))⟩
    ·
     have hb9 := hb
     try simp only [hS, hE, ne_eq] at hb
     first | rw [if_pos hb9] at h | rw [if_neg (Bool.eq_false_iff.1 hb9)] at h | rw [if_pos hb] at h | rw [if_neg hb] at h | (simp only [hb, hT, reduceIte] at h) | skip
     refine AWp.skip ?_
     refine W.kp [1, 2, 3, 4, 5, 13, 14, 18, 19, 20, 25] ?_
     refine AWp.region ?_
     refine L.Y Y.bin ?_
     refine L.Y Y.mv ?_
     refine AList.nil ?_
     exact ⟨k5, by omega, _, _, ⟨by omega, _, _, _, _, _, _, _, _, _, rfl, rfl, h⟩, IsPart.at [] [0, 1, 2, 3] base0 (H.c (H.c (H.c (H.c .nil)))) (E.c (E.c (E.c (E.c (E.c (E.c (E.c (E.c .nil))))))))⟩
   ·
    have hb7 := hb
    try simp only [hS, hE, ne_eq] at hb
    first | rw [if_pos hb7] at h | rw [if_neg (Bool.eq_false_iff.1 hb7)] at h | rw [if_pos hb] at h | rw [if_neg hb] at h | (simp only [hb, hT, reduceIte] at h) | skip
    refine AWp.exit ?_
    refine AWp.region ?_
    refine L.Y Y.bin ?_
    refine L.Y Y.mv ?_
    refine AList.nil ?_
    exact ⟨k5, by omega, _, _, ⟨by omega, _, _, _, _, _, _, rfl, rfl, h⟩, IsPart.at [] [0, 1, 2, 3] base0 (H.c (H.c (H.c (H.c .nil)))) (E.c (E.c (E.c (E.c (E.c .nil)))))⟩
  ·
   have hb4 := hb
   try simp only [hS, hE, ne_eq] at hb
   first | rw [if_pos hb4] at h | rw [if_neg (Bool.eq_false_iff.1 hb4)] at h | rw [if_pos hb] at h | rw [if_neg hb] at h | (simp only [hb, hT, reduceIte] at h) | skip
   refine AWp.exit ?_
   refine AWp.seq ?_
   refine AWp.region ?_
   refine L.S (S.ldN Tryd.underlying30 Y30) ?_
   refine L.S (S.stb Y30) ?_
   refine AList.nil ?_
   simp only [Option.some.injEq, Prod.mk.injEq] at h
   obtain ⟨rfl, rfl⟩ := h
   refine AWp.ret ?_
   exact ⟨.inr rfl, _, _, _, Res.cl Tryd.underlying30 Y30, ⟨rfl, rfl⟩, PartV.at [] [3] base0 (H.c .nil)⟩

/-! ### impl_Order_acyclic: function 86 -/
def impl_Order_acyclic.l0 : Nat → Int → Int → Int → List Int → Option (Bool)
 | 0, _, _, _, _ => none
 | k + 1, x8, x9, x329000, x329001 => if x9 < x8 then ((impl_Order_better.f x329000 x329001 x9 x9).bind fun t329 => (if t329 = true then (some false) else (impl_Order_acyclic.l0 k x8 (wrap64 (x9 + 1)) x329000 x329001))) else (some true)
def impl_Order_acyclic.f (k : Nat) (a0_0 : Int) (l0_1 : List Int) : Option (Bool) := (impl_Order_closed.f k a0_0 l0_1).bind fun bt324 => (impl_Order_acyclic.l0 k a0_0 0 bt324.1 bt324.2)
set_option maxRecDepth 100000 in
set_option maxHeartbeats 20000000 in
theorem impl_Order_acyclic.ac (k : Nat) (a0_0 : Int) (l0_1 : List Int) (r : Bool) (h : impl_Order_acyclic.f k a0_0 l0_1 = some r) :
  ACalls Tryd.prog 86 [.agg [.lit (.int .i64 a0_0), .row 1 l0_1.length false (ints .i64 l0_1)]] [] (fun v H' => v = .lit (.bool r) ∧ H' = []) := by
 refine ACalls.ofP [2] Tryd.func86 rfl (by exact Nat.le_of_ble_eq_true rfl) rfl (by decide) ?_
 simp only [Tryd.ntmps86, env0, impl_Order_acyclic.f] at h ⊢
 refine AWp.seq ?_
 refine AWp.region ?_
 refine L.M M.bx ?_
 refine L.Y Y.asg ?_
 refine AList.nil ?_
 refine AWp.seq ?_
 refine AWp.region ?_
 refine L.S (S.ldN Tryd.underlying30 Y30) ?_
 obtain ⟨⟨t324, t325⟩, hc1, h⟩ := Option.bind_eq_some_iff.1 h
 dsimp only at h
 refine L.C (C.callE (l := true) [] Tryd.func128 (impl_Order_closed.ac _ _ _ _ _ hc1) .nil ?_)
 refine L.M (M.al Y30) ?_
 refine L.S (S.stb Y30) ?_
 refine AList.nil ?_
 refine AWp.seq ?_
 refine AWp.seq ?_
 refine AWp.region ?_
 refine L.Y (Y.fa (off := 0) Tryd.underlying30 Y3) ?_
 refine L.S (S.ld Tryd.underlying3) ?_
 refine L.Y Y.mv ?_
 refine AList.nil ?_
 refine AWp.block ?_
 refine AWp.loopI (fun kk e H => kk ≤ k ∧ ∃ (x8 : Int) (x9 : Int) (x324000 : Int) (x329000 : Int) (x329001 : List Int), e = [(1, .ptr 0 0), (3, .ptr 1 0), (8, .lit (.int .i64 x8)), (9, .lit (.int .i64 x9))] ∧ H = [.bx 30 [.lit (.int .i64 x324000), .row 1 l0_1.length false (ints .i64 l0_1)], .bx 30 [.lit (.int .i64 x329000), .own 2 x329001.length], .sl 3 1 x329001.length false (ints .i64 x329001)] ∧ impl_Order_acyclic.l0 kk x8 x9 x329000 x329001 = some r) (k := k)
  ⟨_, _, ⟨Nat.le_refl _, _, _, _, _, _, rfl, rfl, h⟩, IsPart.at [] [0, 2, 1] base0 (H.c (H.c (H.c .nil))) (E.c (E.c (E.c (E.c .nil))))⟩ ?_
 clear h
 rintro k2 e H ⟨hk3, x8, x9, x324000, x329000, x329001, rfl, rfl, h⟩
 cases k2 with
 | zero => exact absurd h (by simp [impl_Order_acyclic.l0])
 | succ k2 =>
 simp only [impl_Order_acyclic.l0] at h
 refine AWp.seq ?_
 refine AWp.region ?_
 refine L.Y Y.bin ?_
 refine AList.nil ?_
 refine AWp.seq ?_
 refine W.cond (fun hb => ?_) (fun hb => ?_)
 ·
  have hb4 := hb
  try simp only [hS, hE, ne_eq] at hb
  first | rw [if_pos hb4] at h | rw [if_neg (Bool.eq_false_iff.1 hb4)] at h | rw [if_pos hb] at h | rw [if_neg hb] at h | (simp only [hb, hT, reduceIte] at h) | skip
  refine AWp.skip ?_
  refine AWp.seq ?_
  refine AWp.block ?_
  refine AWp.seq ?_
  refine AWp.region ?_
  refine L.Y Y.mv ?_
  refine L.Y Y.asg ?_
  refine AList.nil ?_
  refine AWp.seq ?_
  refine AWp.region ?_
  refine L.S (S.ldN Tryd.underlying30 Y30) ?_
  refine L.Y Y.mv ?_
  refine L.Y Y.mv ?_
  obtain ⟨t329, hc5, h⟩ := Option.bind_eq_some_iff.1 h
  refine L.C (C.callE (l := true) [] Tryd.func73 (impl_Order_better.ac _ _ _ _ _ hc5) .nil ?_)
  refine AList.nil ?_
  refine W.cond (fun hb => ?_) (fun hb => ?_)
  ·
   have hb6 := hb
   try simp only [hS, hE, ne_eq] at hb
   first | rw [if_pos hb6] at h | rw [if_neg (Bool.eq_false_iff.1 hb6)] at h | rw [if_pos hb] at h | rw [if_neg hb] at h | (simp only [hb, hT, reduceIte] at h) | skip
   refine AWp.seq ?_
   refine W.kp [1, 3, 4, 8, 9, 10, 15] ?_
   refine AWp.region ?_
   refine L.Y Y.asg ?_
   refine AList.nil ?_
   obtain rfl := Option.some.inj h
   refine AWp.ret ?_
   exact ⟨.inr rfl, [(2, _)], _, ⟨rfl, rfl⟩, IsPart.at [] [] base0 .nil (E.c .nil)⟩
  ·
   have hb6 := hb
   try simp only [hS, hE, ne_eq] at hb
   first | rw [if_pos hb6] at h | rw [if_neg (Bool.eq_false_iff.1 hb6)] at h | rw [if_pos hb] at h | rw [if_neg hb] at h | (simp only [hb, hT, reduceIte] at h) | skip
   refine AWp.skip ?_
   refine W.kp [1, 3, 4, 8, 9, 10, 15] ?_
   refine AWp.region ?_
   refine L.Y Y.bin ?_
   refine L.Y Y.mv ?_
   refine AList.nil ?_
   exact ⟨k2, by omega, _, _, ⟨by omega, _, _, _, _, _, rfl, rfl, h⟩, IsPart.at [] [0, 1, 2] base0 (H.c (H.c (H.c .nil))) (E.c (E.c (E.c (E.c .nil))))⟩
 ·
  have hb4 := hb
  try simp only [hS, hE, ne_eq] at hb
  first | rw [if_pos hb4] at h | rw [if_neg (Bool.eq_false_iff.1 hb4)] at h | rw [if_pos hb] at h | rw [if_neg hb] at h | (simp only [hb, hT, reduceIte] at h) | skip
  refine AWp.exit ?_
  refine AWp.seq ?_
  refine AWp.region ?_
  refine L.Y Y.asg ?_
  refine AList.nil ?_
  obtain rfl := Option.some.inj h
  refine AWp.ret ?_
  exact ⟨.inr rfl, [(2, _)], _, ⟨rfl, rfl⟩, IsPart.at [] [] base0 .nil (E.c .nil)⟩

/-! ### impl_isChoice: function 106 -/
mutual
def impl_isChoice.j0 : Nat → List Int → Bool → Option (Bool)
 | 0, _, _ => none
 | k + 1, x1, x16 => if x16 = true then (some false) else (impl_isChoice.l0 k x1 (x1.length : Int) 0)
def impl_isChoice.l0 : Nat → List Int → Int → Int → Option (Bool)
 | 0, _, _, _ => none
 | k + 1, x17, x18, x19 => if x19 < x18 then (if 0 ≤ x19 then (if x19 < (x17.length : Int) then (if (Go.bits .andNot .i64 (rd x17 x19) x19) = 0 then (if (rd x17 x19) < 0 then (some false) else (if (rd x17 x19) = 0 then (if x19 = 0 then (impl_isChoice.l0 k x17 x18 (wrap64 (x19 + 1))) else (some false)) else (impl_isChoice.l0 k x17 x18 (wrap64 (x19 + 1))))) else (some false)) else (none)) else (none)) else (some true)
end
def impl_isChoice.f (k : Nat) (a0 : Int) (l1 : List Int) : Option (Bool) := (impl_within.f a0 0 4).bind fun t330 => (if t330 = true then (if 0 ≤ a0 then (impl_isChoice.j0 k l1 ((l1.length : Int) != (shl .i64 1 a0))) else (none)) else (impl_isChoice.j0 k l1 true))
set_option maxRecDepth 100000 in
set_option maxHeartbeats 20000000 in
theorem impl_isChoice.ac (k : Nat) (a0 : Int) (l1 : List Int) (r : Bool) (h : impl_isChoice.f k a0 l1 = some r) :
  ACalls Tryd.prog 106 [.lit (.int .i64 a0), .row 1 l1.length false (ints .i64 l1)] [] (fun v H' => v = .lit (.bool r) ∧ H' = []) := by
 refine ACalls.ofP [4] Tryd.func106 rfl (by exact Nat.le_of_ble_eq_true rfl) rfl (by decide) ?_
 simp only [Tryd.ntmps106, env0, impl_isChoice.f] at h ⊢
 refine AWp.seq ?_
 refine AWp.region ?_
 refine L.Y Y.asg ?_
 refine AList.nil ?_
 refine AWp.seq ?_
 refine AWp.seq ?_
 refine AWp.region ?_
 refine L.Y Y.mv ?_
 obtain ⟨t330, hc1, h⟩ := Option.bind_eq_some_iff.1 h
 refine L.C (C.callE (l := true) [] Tryd.func68 (impl_within.ac _ _ _ _ hc1) .nil ?_)
 refine L.Y Y.nt ?_
 refine L.Y Y.mv ?_
 refine L.Gc (fun hb => ?_) (fun hb => ?_)
 ·
  have hb2 := hb
  try simp only [hS, hE, ne_eq] at hb
  first | rw [if_pos hb2] at h | rw [if_neg (Bool.eq_false_iff.1 hb2)] at h | rw [if_pos hb] at h | rw [if_neg hb] at h | (simp only [hb, hT, reduceIte] at h) | skip
  refine L.Gn hb2 ?_
  refine L.Gn hb2 ?_
  refine L.Gn hb2 ?_
  refine L.Gn hb2 ?_
  refine L.Gn hb2 ?_
  refine L.Y (Y.pk (c := true) hb2) ?_
  refine AList.nil ?_
  rcases k with _ | k
  ·
   exact absurd h (by simp [impl_isChoice.j0])
  simp only [impl_isChoice.j0] at h
  refine W.cond (fun hb => ?_) (fun hb => ?_)
  rotate_left
  ·
   exact DD hb
  have hb3 := hb
  try (first | rw [if_pos hb3] at h | rw [if_neg (Bool.eq_false_iff.1 hb3)] at h | rw [if_pos hb] at h | rw [if_neg hb] at h | (simp only [hb, hT, reduceIte] at h) | skip)
  refine AWp.seq ?_
  refine W.kp [0, 1, 4, 16] ?_
  refine AWp.region ?_
  refine L.Y Y.asg ?_
  refine AList.nil ?_
  obtain rfl := Option.some.inj h
  refine AWp.ret ?_
  exact ⟨.inr rfl, [(4, _)], _, ⟨rfl, rfl⟩, IsPart.at [] [] base0 .nil (E.c .nil)⟩
 ·
  have hb2 := hb
  try simp only [hS, hE, ne_eq] at hb
  first | rw [if_pos hb2] at h | rw [if_neg (Bool.eq_false_iff.1 hb2)] at h | rw [if_pos hb] at h | rw [if_neg hb] at h | (simp only [hb, hT, reduceIte] at h) | skip
  repeat (first | (rw [iN] at h; obtain ⟨_, h⟩ := h) | (rw [iP] at h; obtain ⟨_, h⟩ := h) | (simp only [bS] at h))
  refine L.Gy hb2 Y.mv ?_
  refine L.Gy hb2 (Y.ln Tryd.underlying22) ?_
  refine L.Gy hb2 Y.mv ?_
  refine L.Gy hb2 Y.bin ?_
  refine L.Gy hb2 Y.bin ?_
  refine L.Y (Y.pk (c := false) hb2) ?_
  refine AList.nil ?_
  rcases k with _ | k
  ·
   exact absurd h (by simp [impl_isChoice.j0])
  simp only [impl_isChoice.j0] at h
  refine W.cond (fun hb => ?_) (fun hb => ?_)
  ·
   have hb4 := hb
   try simp only [hS, hE, ne_eq] at hb
   first | rw [if_pos hb4] at h | rw [if_neg (Bool.eq_false_iff.1 hb4)] at h | rw [if_pos hb] at h | rw [if_neg hb] at h | (simp only [hb, hT, reduceIte] at h) | skip
   refine AWp.seq ?_
   refine W.kp [0, 1, 4, 16] ?_
   refine AWp.region ?_
   refine L.Y Y.asg ?_
   refine AList.nil ?_
   obtain rfl := Option.some.inj h
   refine AWp.ret ?_
   exact ⟨.inr rfl, [(4, _)], _, ⟨rfl, rfl⟩, IsPart.at [] [] base0 .nil (E.c .nil)⟩
  ·
   have hb4 := hb
   try simp only [hS, hE, ne_eq] at hb
   first | rw [if_pos hb4] at h | rw [if_neg (Bool.eq_false_iff.1 hb4)] at h | rw [if_pos hb] at h | rw [if_neg hb] at h | (simp only [hb, hT, reduceIte] at h) | skip
   refine AWp.skip ?_
   refine AWp.seq ?_
   refine AWp.seq ?_
   refine W.kp [0, 1, 4, 16] ?_
   refine AWp.region ?_
   refine L.Y Y.mv ?_
   refine L.Y (Y.ln Tryd.underlying22) ?_
   refine L.Y Y.mv ?_
   refine AList.nil ?_
   refine AWp.block ?_
   refine AWp.loopI (fun kk e H => kk ≤ k ∧ ∃ (x18 : Int) (x19 : Int), e = [(17, .row 1 l1.length false (ints .i64 l1)), (18, .lit (.int .i64 x18)), (19, .lit (.int .i64 x19))] ∧ H = [] ∧ impl_isChoice.l0 kk l1 x18 x19 = some r) (k := k)
    ⟨_, _, ⟨Nat.le_refl _, _, _, rfl, rfl, h⟩, IsPart.at [] [] base0 .nil (E.c (E.c (E.c .nil)))⟩ ?_
   clear h
   rintro k5 e H ⟨hk6, x18, x19, rfl, rfl, h⟩
   cases k5 with
   | zero => exact absurd h (by simp [impl_isChoice.l0])
   | succ k5 =>
   simp only [impl_isChoice.l0] at h
   refine AWp.seq ?_
   refine AWp.region ?_
   refine L.Y Y.bin ?_
   refine AList.nil ?_
   refine AWp.seq ?_
   refine W.cond (fun hb => ?_) (fun hb => ?_)
   ·
    have hb7 := hb
    try simp only [hS, hE, ne_eq] at hb
    first | rw [if_pos hb7] at h | rw [if_neg (Bool.eq_false_iff.1 hb7)] at h | rw [if_pos hb] at h | rw [if_neg hb] at h | (simp only [hb, hT, reduceIte] at h) | skip
    repeat (first | (rw [iN] at h; obtain ⟨_, h⟩ := h) | (rw [iP] at h; obtain ⟨_, h⟩ := h) | (simp only [bS] at h))
    refine AWp.skip ?_
    refine AWp.seq ?_
    refine AWp.block ?_
    refine AWp.seq ?_
    refine AWp.region ?_
    refine L.Y Y.mv ?_
    refine L.Y (Y.ixr Tryd.underlying22 Y3) ?_
    refine L.S (S.ld Tryd.underlying3) ?_
    refine L.Y Y.asg ?_
    refine L.Y Y.asg ?_
    refine AList.nil ?_
    refine AWp.seq ?_
    refine AWp.region ?_
    refine L.Y Y.mv ?_
    refine L.Y Y.mv ?_
    refine L.Y Y.bin ?_
    refine L.Y Y.bin ?_
    refine L.Y Y.mv ?_
    refine L.Gc (fun hb => ?_) (fun hb => ?_)
    ·
     have hb8 := hb
     try simp only [hS, hE, ne_eq] at hb
     first | rw [if_pos hb8] at h | rw [if_neg (Bool.eq_false_iff.1 hb8)] at h | rw [if_pos hb] at h | rw [if_neg hb] at h | (simp only [hb, hT, reduceIte] at h) | skip
     refine L.Gn hb8 ?_
     refine L.Gn hb8 ?_
     refine L.Y (Y.pk (c := true) hb8) ?_
     refine L.Y Y.mv ?_
     refine L.Gc (fun hb => ?_) (fun hb => ?_)
     rotate_left
     ·
      exact DD hb
     have hb9 := hb
     refine L.Gn hb9 ?_
     refine L.Gn hb9 ?_
     refine L.Gn hb9 ?_
     refine L.Nu ?_
     refine L.Nu ?_
     refine L.Gn hb9 ?_
     refine L.Y (Y.pk (c := true) hb9) ?_
     refine AList.nil ?_
     refine W.cond (fun hb => ?_) (fun hb => ?_)
     rotate_left
     ·
      exact DD hb
     have hb10 := hb
     refine AWp.seq ?_
     refine W.kp [5, 6, 17, 18, 19, 20, 39] ?_
     refine AWp.region ?_
     refine L.Y Y.asg ?_
     refine AList.nil ?_
     obtain rfl := Option.some.inj h
     refine AWp.ret ?_
     exact ⟨.inr rfl, [(4, _)], _, ⟨rfl, rfl⟩, IsPart.at [] [] base0 .nil (E.c .nil)⟩
    ·
     have hb8 := hb
     try simp only [hS, hE, ne_eq] at hb
     first | rw [if_pos hb8] at h | rw [if_neg (Bool.eq_false_iff.1 hb8)] at h | rw [if_pos hb] at h | rw [if_neg hb] at h | (simp only [hb, hT, reduceIte] at h) | skip
     refine L.Gy hb8 Y.mv ?_
     refine L.Gy hb8 Y.bin ?_
     refine L.Y (Y.pk (c := false) hb8) ?_
     refine L.Y Y.mv ?_
     refine L.Gc (fun hb => ?_) (fun hb => ?_)
     ·
      have hb11 := hb
      try simp only [hS, hE, ne_eq] at hb
      first | rw [if_pos hb11] at h | rw [if_neg (Bool.eq_false_iff.1 hb11)] at h | rw [if_pos hb] at h | rw [if_neg hb] at h | (simp only [hb, hT, reduceIte] at h) | skip
      refine L.Gn hb11 ?_
      refine L.Gn hb11 ?_
      refine L.Gn hb11 ?_
      refine L.Nu ?_
      refine L.Nu ?_
      refine L.Gn hb11 ?_
      refine L.Y (Y.pk (c := true) hb11) ?_
      refine AList.nil ?_
      refine W.cond (fun hb => ?_) (fun hb => ?_)
      rotate_left
      ·
       exact DD hb
      have hb12 := hb
      refine AWp.seq ?_
      refine W.kp [5, 6, 17, 18, 19, 20, 39] ?_
      refine AWp.region ?_
      refine L.Y Y.asg ?_
      refine AList.nil ?_
      obtain rfl := Option.some.inj h
      refine AWp.ret ?_
      exact ⟨.inr rfl, [(4, _)], _, ⟨rfl, rfl⟩, IsPart.at [] [] base0 .nil (E.c .nil)⟩
     ·
      have hb11 := hb
      try simp only [hS, hE, ne_eq] at hb
      first | rw [if_pos hb11] at h | rw [if_neg (Bool.eq_false_iff.1 hb11)] at h | rw [if_pos hb] at h | rw [if_neg hb] at h | (simp only [hb, hT, reduceIte] at h) | skip
      refine L.Gy hb11 Y.mv ?_
      refine L.Gy hb11 Y.bin ?_
      refine L.Gy hb11 Y.mv ?_
      refine L.Gc (fun hb => ?_) (fun hb => ?_)
      ·
       have hb13 := hb
       try simp only [hS, hE, ne_eq] at hb
       first | rw [if_pos hb13] at h | rw [if_neg (Bool.eq_false_iff.1 hb13)] at h | rw [if_pos hb] at h | rw [if_neg hb] at h | (simp only [hb, hT, reduceIte] at h) | skip
       refine L.Gy hb13 Y.mv ?_
       refine L.Gy hb13 Y.bin ?_
       refine L.Gy hb11 (Y.pk (c := true) hb13) ?_
       refine L.Y (Y.pk (c := false) hb11) ?_
       refine AList.nil ?_
       refine W.cond (fun hb => ?_) (fun hb => ?_)
       ·
        have hb14 := hb
        try simp only [hS, hE, ne_eq] at hb
        first | rw [if_pos hb14] at h | rw [if_neg (Bool.eq_false_iff.1 hb14)] at h | rw [if_pos hb] at h | rw [if_neg hb] at h | (simp only [hb, hT, reduceIte] at h) | skip
        refine AWp.seq ?_
        refine W.kp [5, 6, 17, 18, 19, 20, 39] ?_
        refine AWp.region ?_
        refine L.Y Y.asg ?_
        refine AList.nil ?_
        obtain rfl := Option.some.inj h
        refine AWp.ret ?_
        exact ⟨.inr rfl, [(4, _)], _, ⟨rfl, rfl⟩, IsPart.at [] [] base0 .nil (E.c .nil)⟩
       ·
        have hb14 := hb
        try simp only [hS, hE, ne_eq] at hb
        first | rw [if_pos hb14] at h | rw [if_neg (Bool.eq_false_iff.1 hb14)] at h | rw [if_pos hb] at h | rw [if_neg hb] at h | (simp only [hb, hT, reduceIte] at h) | skip
        refine AWp.skip ?_
        refine W.kp [5, 6, 17, 18, 19, 20, 39] ?_
        refine AWp.region ?_
        refine L.Y Y.bin ?_
        refine L.Y Y.mv ?_
        refine AList.nil ?_
        exact ⟨k5, by omega, _, _, ⟨by omega, _, _, rfl, rfl, h⟩, IsPart.at [] [] base0 .nil (E.c (E.c (E.c .nil)))⟩
      ·
       have hb13 := hb
       try simp only [hS, hE, ne_eq] at hb
       first | rw [if_pos hb13] at h | rw [if_neg (Bool.eq_false_iff.1 hb13)] at h | rw [if_pos hb] at h | rw [if_neg hb] at h | (simp only [hb, hT, reduceIte] at h) | skip
       refine L.Gn hb13 ?_
       refine L.Gn hb13 ?_
       refine L.Gy hb11 (Y.pk (c := false) hb13) ?_
       refine L.Y (Y.pk (c := false) hb11) ?_
       refine AList.nil ?_
       refine W.cond (fun hb => ?_) (fun hb => ?_)
       ·
        exact DD hb
       have hb15 := hb
       refine AWp.skip ?_
       refine W.kp [5, 6, 17, 18, 19, 20, 39] ?_
       refine AWp.region ?_
       refine L.Y Y.bin ?_
       refine L.Y Y.mv ?_
       refine AList.nil ?_
       exact ⟨k5, by omega, _, _, ⟨by omega, _, _, rfl, rfl, h⟩, IsPart.at [] [] base0 .nil (E.c (E.c (E.c .nil)))⟩
   ·
    have hb7 := hb
    try simp only [hS, hE, ne_eq] at hb
    first | rw [if_pos hb7] at h | rw [if_neg (Bool.eq_false_iff.1 hb7)] at h | rw [if_pos hb] at h | rw [if_neg hb] at h | (simp only [hb, hT, reduceIte] at h) | skip
    refine AWp.exit ?_
    refine AWp.seq ?_
    refine AWp.region ?_
    refine L.Y Y.asg ?_
    refine AList.nil ?_
    obtain rfl := Option.some.inj h
    refine AWp.ret ?_
    exact ⟨.inr rfl, [(4, _)], _, ⟨rfl, rfl⟩, IsPart.at [] [] base0 .nil (E.c .nil)⟩

end Go.Proofs.YtpippjgphndjmaaDoor.PFnRationalTables
