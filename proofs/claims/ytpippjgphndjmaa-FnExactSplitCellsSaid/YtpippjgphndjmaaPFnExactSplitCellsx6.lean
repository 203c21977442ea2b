-- Written by a program of this session's (wip/myprint2): the functions by the kit's print, the walks by awgen.py. Lean checks it.
import Derived.Test.YtpippjgphndjmaaPFnExactSplitCellsx0
import Derived.Test.YtpippjgphndjmaaPFnExactSplitCellsx4
import Derived.Test.YtpippjgphndjmaaPFnExactSplitCellsx5
namespace Go.Proofs.Ytpippjgphndjmaa.PFnExactSplitCells
open Go.RowKit Go.Proofs.YtpippjgphndjmaaW.PrintWords Go.Proofs.YtpippjgphndjmaaW.PrintLast Go.Proofs.YtpippjgphndjmaaW.PrintMore Go.Proofs.YtpippjgphndjmaaM Go.Proofs.YtpippjgphndjmaaA
attribute [local go_sem] max2_int min2_int max_two min_two max_three min_three max_four min_four   -- for this text's walks alone
set_option linter.unusedVariables false
set_option linter.unusedSimpArgs false

/-! ### impl_cellsWith: function 62 -/
def impl_cellsWith.l0 : Nat → List Int → Int → List Int → List Int → Int → Int → Option (List Int)
  | 0, _, _, _, _, _, _ => none
  | k + 1, x0, x2, x7, x11, x12, x13 => if x13 < x12 then (if 0 ≤ x13 then (if x13 < (x11.length : Int) then (if (rd x11 x13) = x2 then (if x13 < (x0.length : Int) then (if x7.length < 17592186044416 then (impl_cellsWith.l0 k x0 x2 (x7 ++ [rd x0 x13]) x11 x12 (wrap64 (x13 + 1))) else (none)) else (none)) else (impl_cellsWith.l0 k x0 x2 x7 x11 x12 (wrap64 (x13 + 1)))) else (none)) else (none)) else (some x7)
def impl_cellsWith.f (k : Nat) (l0 : List Int) (l1 : List Int) (a2 : Int) : Option (List Int) := impl_cellsWith.l0 k l0 a2 (([] : List Int)) l1 (l1.length : Int) 0
theorem impl_cellsWith.mono_l : ∀ k, (∀ y0 y1 y2 y3 y4 y5, LeO (impl_cellsWith.l0 k y0 y1 y2 y3 y4 y5) (impl_cellsWith.l0 (k + 1) y0 y1 y2 y3 y4 y5))
  | 0 => fun _ _ _ _ _ _ r h => by simp [impl_cellsWith.l0] at h
  | k + 1 => by
    have ih0 := impl_cellsWith.mono_l k
    · intro y0 y1 y2 y3 y4 y5
      unfold impl_cellsWith.l0
      repeat' first
      | (with_reducible exact ih0 _ _ _ _ _ _)
      | (with_reducible exact LeO.refl _)
      | (with_reducible exact LeO.none _)
      | (with_reducible refine LeO.ite ?_ ?_)
      | (with_reducible refine LeO.bind ?_ (fun _ => ?_))
      | exact ih0 _ _ _ _ _ _
      | exact LeO.none _
      | refine LeO.ite ?_ ?_
      | refine LeO.bind ?_ (fun _ => ?_)
theorem impl_cellsWith.mono : ∀ a0 a1 a2 k, LeO (impl_cellsWith.f k a0 a1 a2) (impl_cellsWith.f (k + 1) a0 a1 a2) := by
  intro a0 a1 a2 k
  have ih0 := impl_cellsWith.mono_l k
  unfold impl_cellsWith.f
  repeat' first
      | (with_reducible exact ih0 _ _ _ _ _ _)
      | (with_reducible exact LeO.refl _)
      | (with_reducible exact LeO.none _)
      | (with_reducible refine LeO.ite ?_ ?_)
      | (with_reducible refine LeO.bind ?_ (fun _ => ?_))
      | exact ih0 _ _ _ _ _ _
      | exact LeO.none _
      | refine LeO.ite ?_ ?_
      | refine LeO.bind ?_ (fun _ => ?_)
set_option maxRecDepth 100000 in
set_option maxHeartbeats 20000000 in
theorem impl_cellsWith.ac (k : Nat) (l0 : List Int) (l1 : List Int) (a2 : Int) (r : List Int) (h : impl_cellsWith.f k l0 l1 a2 = some r) :
    ACalls Try.prog 62 [.row 1 l0.length false (ints .i64 l0), .row 1 l1.length false (ints .i64 l1), .lit (.int .i64 a2)] [] (fun v H' => v = .own 0 r.length ∧ H' = [.sl 3 1 r.length false (ints .i64 r)]) := by
  refine ACalls.ofP [6] Try.func62 rfl (by exact Nat.le_of_ble_eq_true rfl) rfl (by decide) ?_
  simp only [Try.ntmps62, env0, impl_cellsWith.f] at h ⊢
  repeat (first | (rw [Option.ite_none_right_eq_some] at h; obtain ⟨_, h⟩ := h) | (rw [Option.ite_none_left_eq_some] at h; obtain ⟨_, h⟩ := h) | (simp only [Option.bind_some] at h))
  refine AWp.seq ?_
  refine AWp.region ?_
  refine L.Y Y.asg ?_
  refine AList.nil ?_
  refine AWp.seq ?_
  refine AWp.region ?_
  refine L.M (M.bs Try.underlying22 Y3) ?_
  refine L.Y Y.asg ?_
  refine AList.nil ?_
  refine AWp.seq ?_
  refine AWp.seq ?_
  refine AWp.region ?_
  refine L.Y Y.mv ?_
  refine L.Y (Y.ln Try.underlying22) ?_
  refine L.Y Y.mv ?_
  refine AList.nil ?_
  refine AWp.block ?_
  repeat (first | (rw [Option.ite_none_right_eq_some] at h; obtain ⟨_, h⟩ := h) | (rw [Option.ite_none_left_eq_some] at h; obtain ⟨_, h⟩ := h) | (simp only [Option.bind_some] at h))
  refine AWp.loopI (fun kk e H => kk ≤ k ∧ ∃ (x2 : Int) (x7 : List Int) (x12 : Int) (x13 : Int), e = [(0, .row 1 l0.length false (ints .i64 l0)), (2, .lit (.int .i64 x2)), (6, .lit (.slice none 0 0)), (7, .own 0 x7.length), (11, .row 1 l1.length false (ints .i64 l1)), (12, .lit (.int .i64 x12)), (13, .lit (.int .i64 x13))] ∧ H = [.sl 3 1 x7.length true (ints .i64 x7)] ∧ impl_cellsWith.l0 kk l0 x2 x7 l1 x12 x13 = some r) (k := k)
    ⟨_, _, ⟨Nat.le_refl _, _, _, _, _, rfl, rfl, h⟩, IsPart.at [] [0] base0 (H.c .nil) (E.c (E.c (E.c (E.c (E.c (E.c (E.c .nil)))))))⟩ ?_
  clear h
  rintro k1 e H ⟨hk2, x2, x7, x12, x13, rfl, rfl, h⟩
  cases k1 with
  | zero => exact absurd h (by simp [impl_cellsWith.l0])
  | succ k1 =>
  simp only [impl_cellsWith.l0] at h
  repeat (first | (rw [Option.ite_none_right_eq_some] at h; obtain ⟨_, h⟩ := h) | (rw [Option.ite_none_left_eq_some] at h; obtain ⟨_, h⟩ := h) | (simp only [Option.bind_some] at h))
  refine AWp.seq ?_
  refine AWp.region ?_
  refine L.Y Y.bin ?_
  refine AList.nil ?_
  refine AWp.seq ?_
  refine W.cond (fun hb => ?_) (fun hb => ?_)
  · have hb3 := hb
    try simp only [decide_eq_true_eq, decide_eq_false_iff_not, Bool.not_eq_true', Bool.not_eq_false', Bool.not_eq_true, Bool.not_eq_false, beq_iff_eq, bne_iff_ne, beq_eq_false_iff_ne, bne_eq_false_iff_eq, ne_eq, Decidable.not_not] at hb
    first | rw [if_pos hb3] at h | rw [if_neg (Bool.eq_false_iff.1 hb3)] at h | rw [if_pos hb] at h | rw [if_neg hb] at h | (simp only [hb, Bool.not_false, Bool.not_true, Bool.false_eq_true, if_true, if_false, reduceIte] at h) | skip
    repeat (first | (rw [Option.ite_none_right_eq_some] at h; obtain ⟨_, h⟩ := h) | (rw [Option.ite_none_left_eq_some] at h; obtain ⟨_, h⟩ := h) | (simp only [Option.bind_some] at h))
    refine AWp.skip ?_
    refine AWp.seq ?_
    refine AWp.block ?_
    refine AWp.seq ?_
    refine AWp.region ?_
    refine L.Y Y.mv ?_
    refine L.Y (Y.ixr Try.underlying22 Y3) ?_
    refine L.S (S.ld Try.underlying3) ?_
    refine L.Y Y.asg ?_
    refine L.Y Y.asg ?_
    refine AList.nil ?_
    refine AWp.seq ?_
    refine AWp.region ?_
    refine L.Y Y.mv ?_
    refine L.Y Y.mv ?_
    refine L.Y Y.bin ?_
    refine AList.nil ?_
    refine W.cond (fun hb => ?_) (fun hb => ?_)
    · have hb4 := hb
      try simp only [decide_eq_true_eq, decide_eq_false_iff_not, Bool.not_eq_true', Bool.not_eq_false', Bool.not_eq_true, Bool.not_eq_false, beq_iff_eq, bne_iff_ne, beq_eq_false_iff_ne, bne_eq_false_iff_eq, ne_eq, Decidable.not_not] at hb
      first | rw [if_pos hb4] at h | rw [if_neg (Bool.eq_false_iff.1 hb4)] at h | rw [if_pos hb] at h | rw [if_neg hb] at h | (simp only [hb, Bool.not_false, Bool.not_true, Bool.false_eq_true, if_true, if_false, reduceIte] at h) | skip
      repeat (first | (rw [Option.ite_none_right_eq_some] at h; obtain ⟨_, h⟩ := h) | (rw [Option.ite_none_left_eq_some] at h; obtain ⟨_, h⟩ := h) | (simp only [Option.bind_some] at h))
      refine W.kp [0, 2, 6, 7, 8, 9, 11, 12, 13, 14, 20] ?_
      refine AWp.region ?_
      refine L.Y Y.mv ?_
      refine L.Y Y.mv ?_
      refine L.Y Y.mv ?_
      refine L.Y (Y.ixr Try.underlying22 Y3) ?_
      refine L.S (S.ld Try.underlying3) ?_
      refine L.M (M.bs Try.underlying22 Y3) ?_
      refine L.S (S.ap (nn' := true) Try.underlying22 Y3) ?_
      refine L.Y Y.asg ?_
      refine AList.nil ?_
      refine W.kp [0, 2, 6, 7, 8, 9, 11, 12, 13, 14, 20] ?_
      refine AWp.region ?_
      refine L.Y Y.bin ?_
      refine L.Y Y.mv ?_
      refine AList.nil ?_
      repeat (first | (rw [Option.ite_none_right_eq_some] at h; obtain ⟨_, h⟩ := h) | (rw [Option.ite_none_left_eq_some] at h; obtain ⟨_, h⟩ := h) | (simp only [Option.bind_some] at h))
      exact ⟨k1, by omega, _, _, ⟨by omega, _, _, _, _, rfl, rfl, h⟩, IsPart.at [] [0] base0 (H.c .nil) (E.c (E.c (E.c (E.c (E.c (E.c (E.c .nil)))))))⟩
    · have hb4 := hb
      try simp only [decide_eq_true_eq, decide_eq_false_iff_not, Bool.not_eq_true', Bool.not_eq_false', Bool.not_eq_true, Bool.not_eq_false, beq_iff_eq, bne_iff_ne, beq_eq_false_iff_ne, bne_eq_false_iff_eq, ne_eq, Decidable.not_not] at hb
      first | rw [if_pos hb4] at h | rw [if_neg (Bool.eq_false_iff.1 hb4)] at h | rw [if_pos hb] at h | rw [if_neg hb] at h | (simp only [hb, Bool.not_false, Bool.not_true, Bool.false_eq_true, if_true, if_false, reduceIte] at h) | skip
      repeat (first | (rw [Option.ite_none_right_eq_some] at h; obtain ⟨_, h⟩ := h) | (rw [Option.ite_none_left_eq_some] at h; obtain ⟨_, h⟩ := h) | (simp only [Option.bind_some] at h))
      refine AWp.skip ?_
      refine W.kp [0, 2, 6, 7, 8, 9, 11, 12, 13, 14, 20] ?_
      refine AWp.region ?_
      refine L.Y Y.bin ?_
      refine L.Y Y.mv ?_
      refine AList.nil ?_
      repeat (first | (rw [Option.ite_none_right_eq_some] at h; obtain ⟨_, h⟩ := h) | (rw [Option.ite_none_left_eq_some] at h; obtain ⟨_, h⟩ := h) | (simp only [Option.bind_some] at h))
      exact ⟨k1, by omega, _, _, ⟨by omega, _, _, _, _, rfl, rfl, h⟩, IsPart.at [] [0] base0 (H.c .nil) (E.c (E.c (E.c (E.c (E.c (E.c (E.c .nil)))))))⟩
  · have hb3 := hb
    try simp only [decide_eq_true_eq, decide_eq_false_iff_not, Bool.not_eq_true', Bool.not_eq_false', Bool.not_eq_true, Bool.not_eq_false, beq_iff_eq, bne_iff_ne, beq_eq_false_iff_ne, bne_eq_false_iff_eq, ne_eq, Decidable.not_not] at hb
    first | rw [if_pos hb3] at h | rw [if_neg (Bool.eq_false_iff.1 hb3)] at h | rw [if_pos hb] at h | rw [if_neg hb] at h | (simp only [hb, Bool.not_false, Bool.not_true, Bool.false_eq_true, if_true, if_false, reduceIte] at h) | skip
    repeat (first | (rw [Option.ite_none_right_eq_some] at h; obtain ⟨_, h⟩ := h) | (rw [Option.ite_none_left_eq_some] at h; obtain ⟨_, h⟩ := h) | (simp only [Option.bind_some] at h))
    refine AWp.exit ?_
    refine AWp.seq ?_
    refine AWp.region ?_
    refine L.Y Y.mv ?_
    refine L.Y Y.asg ?_
    refine AList.nil ?_
    repeat (first | (rw [Option.ite_none_right_eq_some] at h; obtain ⟨_, h⟩ := h) | (rw [Option.ite_none_left_eq_some] at h; obtain ⟨_, h⟩ := h) | (simp only [Option.bind_some] at h))
    obtain rfl := Option.some.inj h
    refine AWp.ret ?_
    exact ⟨.inr rfl, [(6, _)], _, ⟨rfl, rfl⟩, IsPart.at [] [0] base0 (H.c .nil) (E.c .nil)⟩

/-! ### slices_Clone_int_int: function 71 -/
def slices_Clone_int_int.f (l0 : List Int) : Option (List Int) := if l0.length * 8 ≤ 140737488355328 then some l0 else none
def slices_Clone_int_int.ren : Go.Shelf.Ren := ⟨fun | 15 => 71 | n => n, fun | 3 => 3 | 4 => 4 | 22 => 22 | n => n, fun n => n⟩
theorem slices_Clone_int_int.lays : Go.Proofs.Lays2.n15 Try.prog slices_Clone_int_int.ren where
  mixed := by kernel_rfl
  f15 := Try.func71.trans (congrArg some (by kernel_rfl))
  t3 := Try.underlying3
  a3 := Try.isAgg3
  z3 := Try.sizeOf3
  v3 := Try.zeroValue3
  t4 := Try.underlying4
  a4 := Try.isAgg4
  z4 := Try.sizeOf4
  v4 := Try.zeroValue4
  t22 := Try.underlying22
  a22 := Try.isAgg22
  z22 := Try.sizeOf22
  v22 := Try.zeroValue22
  i3 := by kernel_rfl
theorem slices_Clone_int_int.row {w : World} {v : Value} {base : Nat} {xs : List Int} (h : w.ownsRow base 3 1 v xs.length (xs.map (Value.int .i64))) : Kd.R (Kd.int .i64) 3 w base (fun _ => True) v xs := by
  refine ⟨fun _ _ => trivial, xs.map (Value.int .i64), h, ⟨by simp [Kd.int, Kd.scalar], fun j p hj => ?_⟩⟩
  show ((xs.map (Value.int .i64)).drop (j * 1)).take 1 = [Value.int .i64 p]
  obtain ⟨hl, rfl⟩ := List.getElem?_eq_some_iff.1 hj
  rw [Nat.mul_one, List.drop_eq_getElem_cons (by simpa using hl)]
  simp
theorem slices_Clone_int_int.calls (A0 : Option Addr) (c0 : Nat) (l0 : List Int) (r : List Int) (w : World) (hr0 : Kd.C (Kd.int .i64) w A0 l0.length l0) (hc0 : l0.length ≤ c0) (h : slices_Clone_int_int.f l0 = some r) :
    Calls Try.prog 71 #[.slice A0 l0.length c0] w fun e w' => ∃ v0_ : Value, e = .returned (v0_) ∧ Kd.R (Kd.int .i64) 3 w' w.heap.size (fun _ => True) v0_ r ∧ Below w.heap.size w w' := by
  unfold slices_Clone_int_int.f at h
  by_cases hb : l0.length * 8 ≤ 140737488355328
  · rw [if_pos hb] at h
    injection h with h
    subst h
    obtain ⟨_, _, hcell⟩ := hr0
    cases A0 with
    | none =>
      have h0 : l0 = [] := by
        apply List.eq_nil_of_length_eq_zero
        apply Nat.eq_zero_of_not_pos
        intro hp
        obtain ⟨ad, e, _⟩ := hcell hp
        cases e
      refine (Any.slices_Clone_int_nil slices_Clone_int_int.lays l0.length c0 w).mono ?_
      rintro e w' ⟨rfl, rfl⟩
      refine ⟨_, rfl, ?_, Below.refl _ _⟩
      rw [h0]
      exact Kd.R_nil _ _ _ _ _
    | some ad =>
      by_cases hp : 0 < l0.length
      · obtain ⟨ad', e, hc⟩ := hcell hp
        cases e
        have hcc : ∀ j, j < l0.length → w.cell? (ad.add j) = some (.int .i64 (l0.getD j 0)) := by
          intro j hj
          obtain ⟨c, hlen, hk, hcells⟩ := hc j l0[j] (List.getElem?_eq_getElem hj)
          have hk' : c = [Value.int .i64 l0[j]] := hk
          have t : w.cell? (ad.add (j * 1 + 0)) = some (Value.int .i64 l0[j]) := hcells 0 (Value.int .i64 l0[j]) (by rw [hk']; rfl)
          rw [Nat.mul_one, Nat.add_zero] at t
          rw [List.getD_eq_getElem?_getD, List.getElem?_eq_getElem hj]
          exact t
        obtain ⟨b, off, spot⟩ := ad
        have hspot : spot = none := by
          have h1 : w.cell? ⟨b, off, spot⟩ = some (.int .i64 (l0.getD 0 0)) := hcc 0 hp
          cases spot with
          | none => rfl
          | some s =>
            simp only [World.cell?] at h1
            split at h1
            · simp at h1
            · cases h1
        subst hspot
        have hc3 : ∀ j, j < l0.length → w.cell? ⟨b, off + j, none⟩ = some (.int .i64 (l0.getD j 0)) := by
          intro j hj
          have := hcc j hj
          rw [Addr.add_lit] at this
          exact this
        refine (Any.slices_Clone_int slices_Clone_int_int.lays b off l0.length c0 l0 w (Nat.le_refl _) hb hc3).mono ?_
        rintro e w' ⟨v', rfl, ho, _, hb'⟩
        refine ⟨v', rfl, slices_Clone_int_int.row ?_, hb'⟩
        have : l0.take l0.length = l0 := List.take_length
        rw [this] at ho
        exact ho
      · have h0 : l0 = [] := List.eq_nil_of_length_eq_zero (by omega)
        subst h0
        refine (Any.slices_Clone_int_zero slices_Clone_int_int.lays ad c0 w).mono ?_
        rintro e w' ⟨v', rfl, ho, _, hb'⟩
        exact ⟨v', rfl, slices_Clone_int_int.row ho, hb'⟩
  · rw [if_neg hb] at h
    cases h
theorem slices_Clone_int_int.ac (l0 : List Int) (r : List Int) (h : slices_Clone_int_int.f l0 = some r) : ACalls Try.prog 71 [.row 1 l0.length false (ints .i64 l0)] [] (fun v H' => v = .own 0 r.length ∧ H' = [.sl 3 1 r.length false (ints .i64 r)]) := by
  unfold slices_Clone_int_int.f at h
  by_cases hb : l0.length * 8 ≤ 140737488355328
  · rw [if_pos hb] at h
    injection h with h
    subst h
    intro R F A w vs hi hvs
    match vs, hvs with
    | [], hvs => simp [VRs] at hvs
    | [c], hvs =>
      simp only [VRs, and_true] at hvs
      rcases VR.ints_cells hvs with ⟨rfl, h0⟩ | ⟨a, cap, rfl, hc, hcell⟩
      · subst h0
        refine (Any.slices_Clone_int_nil slices_Clone_int_int.lays 0 0 w).mono ?_
        rintro e w' ⟨rfl, rfl⟩
        exact CallPost.fresh (vs := []) hi rfl (World.ownsRow_nil _ _ _ _) (Below.refl _ _) (fun _ _ _ _ => by simp [VRs, ints])
      · by_cases hp : 0 < l0.length
        · obtain ⟨b, off, rfl, _, hcc⟩ := hcell hp
          refine (Any.slices_Clone_int slices_Clone_int_int.lays b off l0.length cap l0 w (Nat.le_refl _) hb hcc).mono ?_
          rintro e w' ⟨v', rfl, ho, _, hb'⟩
          have ht : l0.take l0.length = l0 := List.take_length
          rw [ht] at ho
          exact CallPost.fresh hi rfl ho hb' (fun _ _ _ _ => VRs_ints .i64 l0)
        · have h0 : l0 = [] := List.eq_nil_of_length_eq_zero (by omega)
          subst h0
          refine (Any.slices_Clone_int_zero slices_Clone_int_int.lays a cap w).mono ?_
          rintro e w' ⟨v', rfl, ho, _, hb'⟩
          exact CallPost.fresh hi rfl ho hb' (fun _ _ _ _ => by simp [VRs, ints])
    | _ :: _ :: _, hvs => simp [VRs] at hvs
  · rw [if_neg hb] at h
    cases h

/-! ### impl_Table_split_1: function 70 -/
mutual
def impl_Table_split_1.l0 : Nat → Int → Int → List Int → List Int → Int → List Int → Int → Option (Option (List Int))
  | 0, _, _, _, _, _, _, _ => none
  | k + 1, a0, a1, l0, cs, many, ns, x17 => if x17 < many then ((slices_Clone_int_int.f ns).bind fun c => (if c.length < 17592186044416 then ((impl_cellsWith.f k cs (c ++ [x17]) x17).bind fun t => ((impl_Table_freeOrder.f k a0 a1 l0 t).bind fun fo => (if fo = [] then (impl_Table_split_1.l0 k a0 a1 l0 cs many ns (wrap64 (x17 + 1))) else ((impl_Table_split_1.f k a0 a1 l0 cs many (c ++ [x17])).bind fun r => (match r with | some y => some (some y) | none => impl_Table_split_1.l0 k a0 a1 l0 cs many ns (wrap64 (x17 + 1))))))) else none)) else some none
def impl_Table_split_1.f : Nat → Int → Int → List Int → List Int → Int → List Int → Option (Option (List Int))
  | 0, _, _, _, _, _, _ => none
  | k + 1, a0, a1, l0, cs, many, ns => if (ns.length : Int) = (cs.length : Int) then some (some ns) else impl_Table_split_1.l0 k a0 a1 l0 cs many ns 0
end
theorem impl_Table_split_1.mono_l : ∀ k, (∀ a0 a1 l0 cs many ns, LeO (impl_Table_split_1.f k a0 a1 l0 cs many ns) (impl_Table_split_1.f (k + 1) a0 a1 l0 cs many ns)) ∧ (∀ a0 a1 l0 cs many ns x, LeO (impl_Table_split_1.l0 k a0 a1 l0 cs many ns x) (impl_Table_split_1.l0 (k + 1) a0 a1 l0 cs many ns x))
  | 0 => ⟨fun _ _ _ _ _ _ r h => by simp [impl_Table_split_1.f] at h, fun _ _ _ _ _ _ _ r h => by simp [impl_Table_split_1.l0] at h⟩
  | k + 1 => by
    obtain ⟨ih0, ih1⟩ := impl_Table_split_1.mono_l k
    refine ⟨?_, ?_⟩
    · intro a0 a1 l0 cs many ns
      unfold impl_Table_split_1.f
      repeat' first
      | (with_reducible exact ih1 _ _ _ _ _ _ _)
      | (with_reducible exact LeO.refl _)
      | (with_reducible refine LeO.ite ?_ ?_)
    · intro a0 a1 l0 cs many ns x
      unfold impl_Table_split_1.l0
      refine LeO.ite ?_ (LeO.refl _)
      refine LeO.bind (LeO.refl _) (fun c => ?_)
      refine LeO.ite ?_ (LeO.refl _)
      refine LeO.bind (impl_cellsWith.mono _ _ _ _) (fun t => ?_)
      refine LeO.bind (impl_Table_freeOrder.mono _ _ _ _ _) (fun fo => ?_)
      refine LeO.ite (ih1 _ _ _ _ _ _ _) ?_
      refine LeO.bind (ih0 _ _ _ _ _ _) (fun r => ?_)
      cases r with
      | none => exact ih1 _ _ _ _ _ _ _
      | some y => exact LeO.refl _
theorem impl_Table_split_1.T3 : Ty Try.prog 3 1 8 (.int .i64 0) := .of (by kernel_rfl)
theorem impl_Table_split_1.T22 : Ty Try.prog 22 1 24 (.slice none 0 0) := .of (by kernel_rfl)
theorem impl_Table_split_1.T28 : Ty Try.prog 28 3 40 (.agg #[.int .i64 0, .int .i64 0, .slice none 0 0]) := .of (by kernel_rfl)
theorem impl_Table_split_1.T62 : Ty Try.prog 62 1 8 .nilFunc := .of (by kernel_rfl)
theorem impl_Table_split_1.HMx : Try.prog.follows .mixedOrders = true := by kernel_rfl
set_option maxRecDepth 100000 in
set_option maxHeartbeats 20000000 in
theorem impl_Table_split_1.ac : ∀ (k : Nat) (a0_0 a0_1 : Int) (l0_2 cs : List Int) (many : Int) (ns : List Int) (r : Option (List Int)) (_ : impl_Table_split_1.f k a0_0 a0_1 l0_2 cs many ns = some r),
    ACalls Try.prog 70 [.own 4 ns.length, .ptr 0 0, .ptr 1 0, .ptr 2 0, .ptr 3 0] [.bx 22 [.row 1 cs.length false (ints .i64 cs)], .bx 3 [.lit (.int .i64 many)], .bx 28 [.lit (.int .i64 a0_0), .lit (.int .i64 a0_1), .row 1 l0_2.length false (ints .i64 l0_2)], .bx 62 [.fn 70 [.ptr 0 0, .ptr 1 0, .ptr 2 0, .ptr 3 0]], .sl 3 1 ns.length true (ints .i64 ns)]
      (fun v H' => match (generalizing := false) r with | none => v = .lit (.slice none 0 0) ∧ H' = [.bx 22 [.row 1 cs.length false (ints .i64 cs)], .bx 3 [.lit (.int .i64 many)], .bx 28 [.lit (.int .i64 a0_0), .lit (.int .i64 a0_1), .row 1 l0_2.length false (ints .i64 l0_2)], .bx 62 [.fn 70 [.ptr 0 0, .ptr 1 0, .ptr 2 0, .ptr 3 0]], .gone] | some y => v = .own 5 y.length ∧ H' = [.bx 22 [.row 1 cs.length false (ints .i64 cs)], .bx 3 [.lit (.int .i64 many)], .bx 28 [.lit (.int .i64 a0_0), .lit (.int .i64 a0_1), .row 1 l0_2.length false (ints .i64 l0_2)], .bx 62 [.fn 70 [.ptr 0 0, .ptr 1 0, .ptr 2 0, .ptr 3 0]], .gone, .sl 3 1 y.length true (ints .i64 y)]) := by
  intro k
  induction k using Nat.strongRecOn with
  | _ k ih =>
  intro a0_0 a0_1 l0_2 cs many ns r h
  cases k with
  | zero => exact absurd h (by simp [impl_Table_split_1.f])
  | succ k =>
  refine ACalls.ofP [6] Try.func70 rfl (by exact Nat.le_of_ble_eq_true rfl) rfl (by decide) ?_
  simp only [Try.ntmps70, env0, impl_Table_split_1.f] at h ⊢
  refine AWp.seq ?_
  refine AWp.region ?_
  refine L.Y Y.asg ?_
  refine AList.nil ?_
  refine AWp.seq ?_
  refine AWp.seq ?_
  refine AWp.region ?_
  refine L.Y Y.mv ?_
  refine L.Y (Y.ln Try.underlying22) ?_
  refine L.S (S.ld Try.underlying22) ?_
  refine L.Y (Y.ln Try.underlying22) ?_
  refine L.Y Y.bin ?_
  refine AList.nil ?_
  refine W.cond (fun hb => ?_) (fun hb => ?_)
  · simp only [beq_iff_eq] at hb
    rw [if_pos hb] at h
    obtain rfl := Option.some.inj h
    refine AWp.seq ?_
    refine AWp.region ?_
    refine L.Y Y.mv ?_
    refine L.Y Y.asg ?_
    refine AList.nil ?_
    refine AWp.ret ?_
    exact ⟨.inr rfl, [(6, _)], _, ⟨rfl, rfl⟩, IsPart.at [(0, 0)] [0, 1, 2, 3, 5, 4] base5 (H.c (H.c (H.c (H.c (H.c (H.c .nil)))))) (E.c .nil)⟩
  simp only [beq_eq_false_iff_ne, ne_eq] at hb
  rw [if_neg hb] at h
  refine AWp.skip ?_
  refine AWp.seq ?_
  refine AWp.seq ?_
  refine W.kp [0, 1, 2, 3, 4] ?_
  refine AWp.region ?_
  refine L.S (S.ld Try.underlying3) ?_
  refine L.Y Y.mv ?_
  refine AList.nil ?_
  refine AWp.block ?_
  refine AWp.loopI (fun kk e H => kk ≤ k ∧ ∃ (x17 : Int), e = [(0, .own 4 ns.length), (1, .ptr 0 0), (2, .ptr 1 0), (3, .ptr 2 0), (4, .ptr 3 0), (16, .lit (.int .i64 many)), (17, .lit (.int .i64 x17))] ∧ H = [.bx 22 [.row 1 cs.length false (ints .i64 cs)], .bx 3 [.lit (.int .i64 many)], .bx 28 [.lit (.int .i64 a0_0), .lit (.int .i64 a0_1), .row 1 l0_2.length false (ints .i64 l0_2)], .bx 62 [.fn 70 [.ptr 0 0, .ptr 1 0, .ptr 2 0, .ptr 3 0]], .sl 3 1 ns.length true (ints .i64 ns)] ∧ impl_Table_split_1.l0 kk a0_0 a0_1 l0_2 cs many ns x17 = some r) (k := k)
    ⟨_, _, ⟨Nat.le_refl _, _, rfl, rfl, h⟩, IsPart.at [] [0, 1, 2, 3, 4] base5 (H.c (H.c (H.c (H.c (H.c .nil))))) (E.c (E.c (E.c (E.c (E.c (E.c (E.c .nil)))))))⟩ ?_
  clear h
  rintro k1 e H ⟨hk1, x17, rfl, rfl, h⟩
  cases k1 with
  | zero => exact absurd h (by simp [impl_Table_split_1.l0])
  | succ k1 =>
  simp only [impl_Table_split_1.l0] at h
  refine AWp.seq ?_
  refine AWp.region ?_
  refine L.Y Y.bin ?_
  refine AList.nil ?_
  refine AWp.seq ?_
  refine W.cond (fun hb => ?_) (fun hb => ?_)
  rotate_left
  · simp only [decide_eq_false_iff_not] at hb
    rw [if_neg hb] at h
    obtain rfl := Option.some.inj h
    refine AWp.exit ?_
    refine AWp.seq ?_
    refine AWp.region ?_
    refine L.Y Y.asg ?_
    refine AList.nil ?_
    refine AWp.ret ?_
    exact ⟨.inr rfl, [(6, _)], _, ⟨rfl, rfl⟩, IsPart.at [(0, 0)] [0, 1, 2, 3, 5] base5 (H.c (H.c (H.c (H.c (H.c .nil))))) (E.c .nil)⟩
  simp only [decide_eq_true_eq] at hb
  rw [if_pos hb] at h
  refine AWp.skip ?_
  refine AWp.seq ?_
  refine AWp.block ?_
  refine AWp.seq ?_
  refine AWp.region ?_
  refine L.Y Y.mv ?_
  refine L.Y Y.asg ?_
  refine AList.nil ?_
  refine AWp.seq ?_
  refine AWp.region ?_
  refine L.Y Y.mv ?_
  obtain ⟨c, hc1, h⟩ := Option.bind_eq_some_iff.1 h
  rw [Option.ite_none_right_eq_some] at h
  obtain ⟨hlim, h⟩ := h
  refine L.C (C.callE (l := true) [] Try.func71 (slices_Clone_int_int.ac _ _ hc1) .nil ?_)
  refine L.Y Y.mv ?_
  refine L.M (M.bs Try.underlying22 impl_Table_split_1.T3) ?_
  refine L.S (S.ap (nn' := true) Try.underlying22 impl_Table_split_1.T3) ?_
  refine L.Y Y.asg ?_
  refine AList.nil ?_
  obtain ⟨t, hc2, h⟩ := Option.bind_eq_some_iff.1 h
  obtain ⟨fo, hc3, h⟩ := Option.bind_eq_some_iff.1 h
  refine AWp.seq ?_
  refine W.kp [0, 1, 2, 3, 4, 7, 8, 16, 17] ?_
  refine AWp.seq ?_
  refine Dt.reg [] [] (.t 0 (.t 1 (.y 2 (.y 3 (.one 4 (.one 5 (.y 6 .done))))))) impl_Table_split_1.HMx ?_
  refine Dt.T rfl wantN (D.ldN Try.underlying28 impl_Table_split_1.T28) ?_
  refine Dt.T rfl wantN (D.ld Try.underlying22) ?_
  refine Dt.Y rfl wantN Y.mv ?_
  refine Dt.Y rfl wantN Y.mv ?_
  refine Dt.O (g' := false) rfl wantN ?_
  refine Ox.C true [] Try.func62 (impl_cellsWith.ac _ _ _ _ _ hc2) .nil ?_
  refine Dt.O (g' := false) rfl wantN ?_
  rcases Classical.em (fo = []) with hq | hq
  · rw [if_pos hq] at h
    refine Ox.C true [] Try.func54 ((impl_Table_freeOrder.acq _ _ _ _ _ _ hc3).conseq (fun _ _ q => q.elim (fun z => z.2) (fun z => absurd hq z.1))) .nil ?_
    refine Dt.Y rfl wantN (Y.nq Try.underlying22) ?_
    refine Dt.nil ?_
    refine W.cond (fun hb => ?_) (fun hb => ?_)
    rotate_left
    · exact absurd hb (by decide)
    refine AWp.exit ?_
    refine W.kp [0, 1, 2, 3, 4, 16, 17] ?_
    refine AWp.region ?_
    refine L.Y Y.bin ?_
    refine L.Y Y.mv ?_
    refine AList.nil ?_
    exact ⟨k1, by omega, _, _, ⟨by omega, _, rfl, rfl, h⟩, IsPart.at [] [0, 1, 2, 3, 4] base5 (H.c (H.c (H.c (H.c (H.c .nil))))) (E.c (E.c (E.c (E.c (E.c (E.c (E.c .nil)))))))⟩
  rw [if_neg hq] at h
  refine Ox.C true [] Try.func54 ((impl_Table_freeOrder.acq _ _ _ _ _ _ hc3).conseq (fun _ _ q => q.elim (fun z => absurd z.1 hq) (fun z => z.2))) .nil ?_
  refine Dt.Y rfl wantN (Y.nq Try.underlying22) ?_
  refine Dt.nil ?_
  refine W.cond (fun hb => ?_) (fun hb => ?_)
  · exact absurd hb (by decide)
  refine AWp.skip ?_
  refine AWp.seq ?_
  refine W.kp [0, 1, 2, 3, 4, 8, 16, 17] ?_
  refine AWp.region ?_
  refine L.S (S.ld Try.underlying62) ?_
  refine L.Y Y.mv ?_
  obtain ⟨ro, hc4, h⟩ := Option.bind_eq_some_iff.1 h
  have hR := ih k1 (by omega) _ _ _ _ _ _ _ hc4
  cases ro with
  | none =>
    refine L.C (C.callE (l := false) [0, 1, 2, 3, 5] Try.func70 hR (H.c (H.c (H.c (H.c (H.c .nil))))) ?_)
    refine L.Y Y.asg ?_
    refine AList.nil ?_
    refine AWp.seq ?_
    refine AWp.region ?_
    refine L.Y Y.mv ?_
    refine L.Y (Y.nn (hb := by first | exact rfl | exact (if_pos ⟨rfl, rfl⟩ : (if (true = true) ∧ y.length = y.length then some false else none) = some false)) Try.underlying22) ?_
    refine AList.nil ?_
    refine W.cond (fun hb => ?_) (fun hb => ?_)
    · exact absurd hb (by decide)
    refine AWp.skip ?_
    refine W.kp [0, 1, 2, 3, 4, 16, 17] ?_
    refine AWp.region ?_
    refine L.Y Y.bin ?_
    refine L.Y Y.mv ?_
    refine AList.nil ?_
    exact ⟨k1, by omega, _, _, ⟨by omega, _, rfl, rfl, h⟩, IsPart.at [] [0, 1, 2, 3, 4] base5 (H.c (H.c (H.c (H.c (H.c .nil))))) (E.c (E.c (E.c (E.c (E.c (E.c (E.c .nil)))))))⟩
  | some y =>
    obtain rfl := Option.some.inj h
    refine L.C (C.callE (l := false) [0, 1, 2, 3, 5] Try.func70 hR (H.c (H.c (H.c (H.c (H.c .nil))))) ?_)
    refine L.Y Y.asg ?_
    refine AList.nil ?_
    refine AWp.seq ?_
    refine AWp.region ?_
    refine L.Y Y.mv ?_
    refine L.Y (Y.nn (hb := by first | exact rfl | exact (if_pos ⟨rfl, rfl⟩ : (if (true = true) ∧ y.length = y.length then some false else none) = some false)) Try.underlying22) ?_
    refine AList.nil ?_
    refine W.cond (fun hb => ?_) (fun hb => ?_)
    rotate_left
    · exact absurd hb (by decide)
    refine AWp.seq ?_
    refine AWp.region ?_
    refine L.Y Y.mv ?_
    refine L.Y Y.asg ?_
    refine AList.nil ?_
    refine AWp.ret ?_
    exact ⟨.inr rfl, [(6, _)], _, ⟨rfl, rfl⟩, IsPart.at [] [0, 1, 2, 3, 5, 9] base5 (H.c (H.c (H.c (H.c (H.c (H.c .nil)))))) (E.c .nil)⟩

/-! ### impl_Table_split: function 48 -/
def impl_Table_split.f (k : Nat) (a0_0 : Int) (a0_1 : Int) (l0_2 : List Int) (a1 : Int) : Option (Option (List Int)) := (impl_Table_emptyCells.f k a0_0 a0_1 l0_2).bind fun cs => impl_Table_split_1.f k a0_0 a0_1 l0_2 cs a1 []
theorem impl_Table_split.mono : ∀ a0 a1 l0 m k, LeO (impl_Table_split.f k a0 a1 l0 m) (impl_Table_split.f (k + 1) a0 a1 l0 m) := by
  intro a0 a1 l0 m k
  unfold impl_Table_split.f
  exact LeO.bind (impl_Table_emptyCells.mono _ _ _ _) (fun cs => (impl_Table_split_1.mono_l k).1 _ _ _ _ _ _)
set_option maxRecDepth 100000 in
set_option maxHeartbeats 20000000 in
theorem impl_Table_split.aco (k : Nat) (a0_0 : Int) (a0_1 : Int) (l0_2 : List Int) (a1 : Int) (r : Option (List Int)) (h : impl_Table_split.f k a0_0 a0_1 l0_2 a1 = some r) :
    ACalls Try.prog 48 [.agg [.lit (.int .i64 a0_0), .lit (.int .i64 a0_1), .row 1 l0_2.length false (ints .i64 l0_2)], .lit (.int .i64 a1)] []
      (fun v H' => match (generalizing := false) r with | none => v = .lit (.slice none 0 0) ∧ H' = [] | some y => v = .own 0 y.length ∧ H' = [.sl 3 1 y.length true (ints .i64 y)]) := by
  refine ACalls.ofP [4] Try.func48 rfl (by exact Nat.le_of_ble_eq_true rfl) rfl (by decide) ?_
  simp only [Try.ntmps48, env0, impl_Table_split.f] at h ⊢
  obtain ⟨cs, hc1, hc2⟩ := Option.bind_eq_some_iff.1 h
  clear h
  have hR := impl_Table_split_1.ac _ _ _ _ _ _ _ _ hc2
  refine AWp.seq ?_
  refine AWp.region ?_
  refine L.M M.bx ?_
  refine L.M M.bx ?_
  refine L.Y Y.asg ?_
  refine AList.nil ?_
  refine AWp.seq ?_
  refine AWp.region ?_
  refine L.S (S.ldN Try.underlying28 impl_Table_split_1.T28) ?_
  refine L.C (C.callE (l := true) [] Try.func63 (impl_Table_emptyCells.ac _ _ _ _ _ hc1) .nil ?_)
  refine L.M (M.al impl_Table_split_1.T22) ?_
  refine L.S (S.stb impl_Table_split_1.T22) ?_
  refine AList.nil ?_
  refine AWp.seq ?_
  refine AWp.region ?_
  refine L.M (M.al impl_Table_split_1.T62) ?_
  refine AList.nil ?_
  refine AWp.seq ?_
  refine AWp.region ?_
  refine L.Y Y.fn ?_
  refine L.S (S.stb impl_Table_split_1.T62) ?_
  refine AList.nil ?_
  refine AWp.seq ?_
  refine AWp.region ?_
  refine L.S (S.ld Try.underlying62) ?_
  refine L.M (M.bs Try.underlying22 impl_Table_split_1.T3) ?_
  refine L.fz 2 ?_
  cases r with
  | none =>
    refine L.C (C.callE (l := false) [3, 1, 0, 4, 5] Try.func70 hR (H.c (H.c (H.c (H.c (H.c .nil))))) ?_)
    refine L.Y Y.asg ?_
    refine AList.nil ?_
    refine AWp.ret ?_
    exact ⟨.inr rfl, [(4, _)], _, ⟨rfl, rfl⟩, IsPart.at [] [] base0 .nil (E.c .nil)⟩
  | some y =>
    refine L.C (C.callE (l := false) [3, 1, 0, 4, 5] Try.func70 hR (H.c (H.c (H.c (H.c (H.c .nil))))) ?_)
    refine L.Y Y.asg ?_
    refine AList.nil ?_
    refine AWp.ret ?_
    exact ⟨.inr rfl, [(4, _)], _, ⟨rfl, rfl⟩, IsPart.at [] [6] base0 (H.c .nil) (E.c .nil)⟩

/-! ### impl_SplitCells: function 14 -/
def impl_SplitCells.f (k : Nat) (a0_0 : Int) (a0_1 : Int) (l0_2 : List Int) (a1 : Int) : Option (List Int × Bool) := (impl_isSplit.f k a0_0 a0_1 l0_2).bind fun t => (if t = true then ((impl_within.f a1 1 4).bind fun u => (if u = true then ((impl_Table_split.f k a0_0 a0_1 l0_2 a1).bind fun r => (match r with | some y => some (y, true) | none => some (([] : List Int), false))) else some (([] : List Int), false))) else some (([] : List Int), false))
theorem impl_SplitCells.mono : ∀ a0 a1 l0 m k, LeO (impl_SplitCells.f k a0 a1 l0 m) (impl_SplitCells.f (k + 1) a0 a1 l0 m) := by
  intro a0 a1 l0 m k
  unfold impl_SplitCells.f
  refine LeO.bind (impl_isSplit.mono _ _ _ _) (fun t => ?_)
  refine LeO.ite ?_ (LeO.refl _)
  refine LeO.bind (LeO.refl _) (fun u => ?_)
  refine LeO.ite ?_ (LeO.refl _)
  exact LeO.bind (impl_Table_split.mono _ _ _ _ _) (fun r => LeO.refl _)
set_option maxRecDepth 100000 in
set_option maxHeartbeats 20000000 in
theorem impl_SplitCells.ac (k : Nat) (a0_0 : Int) (a0_1 : Int) (l0_2 : List Int) (a1 : Int) (r1 : List Int) (r2 : Bool) (h : impl_SplitCells.f k a0_0 a0_1 l0_2 a1 = some (r1, r2)) :
    ACalls Try.prog 14 [.agg [.lit (.int .i64 a0_0), .lit (.int .i64 a0_1), .row 1 l0_2.length false (ints .i64 l0_2)], .lit (.int .i64 a1)] []
      (fun v H' => v = .tup [.own 0 r1.length, .lit (.bool r2)] ∧ H' = [.sl 3 1 r1.length false (ints .i64 r1)]) := by
  refine ACalls.ofP [4, 5] Try.func14 rfl (by exact Nat.le_of_ble_eq_true rfl) rfl (by decide) ?_
  simp only [Try.ntmps14, env0, impl_SplitCells.f] at h ⊢
  refine AWp.seq ?_
  refine AWp.region ?_
  refine L.M M.bx ?_
  refine L.Y Y.asg ?_
  refine L.Y Y.asg ?_
  refine AList.nil ?_
  refine AWp.seq ?_
  refine AWp.seq ?_
  refine AWp.region ?_
  refine L.S (S.ldN Try.underlying28 impl_Table_split_1.T28) ?_
  obtain ⟨t, hc1, h⟩ := Option.bind_eq_some_iff.1 h
  refine L.C (C.callE (l := true) [] Try.func44 (impl_isSplit.ac _ _ _ _ _ hc1) .nil ?_)
  refine L.Y Y.nt ?_
  refine L.Y Y.mv ?_
  cases t with
  | false =>
    rw [if_neg (by decide)] at h
    simp only [Option.some.injEq, Prod.mk.injEq] at h
    obtain ⟨rfl, rfl⟩ := h
    refine L.Gn rfl ?_
    refine L.Gn rfl ?_
    refine L.Gn rfl ?_
    refine L.Y (Y.pk (c := true) rfl) ?_
    refine AList.nil ?_
    refine W.cond (fun hb => ?_) (fun hb => ?_)
    rotate_left
    · exact absurd hb (by decide)
    refine AWp.seq ?_
    refine AWp.region ?_
    refine L.Y Y.asg ?_
    refine L.Y Y.asg ?_
    refine AList.nil ?_
    refine AWp.ret ?_
    exact ⟨.inr rfl, [(4, _), (5, _)], _, ⟨rfl, rfl⟩, IsPart.at [(3, 1)] [1] base0 (H.c .nil) (E.c (E.c .nil))⟩
  | true =>
    rw [if_pos rfl] at h
    obtain ⟨u, hc2, h⟩ := Option.bind_eq_some_iff.1 h
    refine L.Gy rfl Y.mv ?_
    refine L.GC rfl (C.callE (l := true) [] Try.func47 (impl_within.ac _ _ _ _ hc2) .nil ?_)
    refine L.Gy rfl Y.nt ?_
    refine L.Y (Y.pk (c := false) rfl) ?_
    refine AList.nil ?_
    cases u with
    | false =>
      rw [if_neg (by decide)] at h
      simp only [Option.some.injEq, Prod.mk.injEq] at h
      obtain ⟨rfl, rfl⟩ := h
      refine W.cond (fun hb => ?_) (fun hb => ?_)
      rotate_left
      · exact absurd hb (by decide)
      refine AWp.seq ?_
      refine AWp.region ?_
      refine L.Y Y.asg ?_
      refine L.Y Y.asg ?_
      refine AList.nil ?_
      refine AWp.ret ?_
      exact ⟨.inr rfl, [(4, _), (5, _)], _, ⟨rfl, rfl⟩, IsPart.at [(3, 1)] [1] base0 (H.c .nil) (E.c (E.c .nil))⟩
    | true =>
      rw [if_pos rfl] at h
      refine W.cond (fun hb => ?_) (fun hb => ?_)
      · exact absurd hb (by decide)
      refine AWp.skip ?_
      refine AWp.seq ?_
      refine W.kp [1, 2] ?_
      refine AWp.region ?_
      refine L.S (S.ldN Try.underlying28 impl_Table_split_1.T28) ?_
      refine L.Y Y.mv ?_
      obtain ⟨ro, hc3, h⟩ := Option.bind_eq_some_iff.1 h
      have hR := impl_Table_split.aco _ _ _ _ _ _ hc3
      cases ro with
      | none =>
        simp only [Option.some.injEq, Prod.mk.injEq] at h
        obtain ⟨rfl, rfl⟩ := h
        refine L.C (C.callE (l := true) [] Try.func48 hR .nil ?_)
        refine L.Y Y.asg ?_
        refine AList.nil ?_
        refine AWp.seq ?_
        refine AWp.region ?_
        refine L.Y Y.mv ?_
        refine L.Y Y.mv ?_
        refine L.Y (Y.nn (hb := by first | exact rfl | exact (if_pos ⟨rfl, rfl⟩ : (if (true = true) ∧ y.length = y.length then some false else none) = some false)) Try.underlying22) ?_
        refine L.Y Y.asg ?_
        refine L.Y Y.asg ?_
        refine AList.nil ?_
        refine AWp.ret ?_
        exact ⟨.inr rfl, [(4, _), (5, _)], _, ⟨rfl, rfl⟩, IsPart.at [(3, 1)] [1] base0 (H.c .nil) (E.c (E.c .nil))⟩
      | some y =>
        simp only [Option.some.injEq, Prod.mk.injEq] at h
        obtain ⟨rfl, rfl⟩ := h
        refine L.C (C.callE (l := true) [] Try.func48 hR .nil ?_)
        refine L.Y Y.asg ?_
        refine AList.nil ?_
        refine AWp.seq ?_
        refine AWp.region ?_
        refine L.Y Y.mv ?_
        refine L.Y Y.mv ?_
        refine L.Y (Y.nn (hb := by first | exact rfl | exact (if_pos ⟨rfl, rfl⟩ : (if (true = true) ∧ y.length = y.length then some false else none) = some false)) Try.underlying22) ?_
        refine L.Y Y.asg ?_
        refine L.Y Y.asg ?_
        refine AList.nil ?_
        refine AWp.ret ?_
        exact ⟨.inr rfl, [(4, _), (5, _)], _, ⟨rfl, rfl⟩, IsPart.at [] [1] base0 (H.c .nil) (E.c (E.c .nil))⟩

/-! ### laws_markIntS: function 17 -/
def laws_markIntS.l0 : Nat → List Int → Int → Int → Option (Int × List Int)
  | 0, _, _, _ => none
  | k + 1, x0, x1, x5 => if x5 < (x0.length : Int) then (if 0 ≤ x5 then (laws_markIntS.l0 k (x0.set (x5 : Int).toNat x1) (wrap64 (x1 + 1)) (wrap64 (x5 + 1))) else (none)) else (some (x1, x0))
def laws_markIntS.f (k : Nat) (l0 : List Int) (a1 : Int) : Option (Int × List Int) := laws_markIntS.l0 k l0 a1 0
theorem laws_markIntS.mono_l : ∀ k, (∀ y0 y1 y2, LeO (laws_markIntS.l0 k y0 y1 y2) (laws_markIntS.l0 (k + 1) y0 y1 y2))
  | 0 => fun _ _ _ r h => by simp [laws_markIntS.l0] at h
  | k + 1 => by
    have ih0 := laws_markIntS.mono_l k
    · intro y0 y1 y2
      unfold laws_markIntS.l0
      repeat' first
      | (with_reducible exact ih0 _ _ _)
      | (with_reducible exact LeO.refl _)
      | (with_reducible exact LeO.none _)
      | (with_reducible refine LeO.ite ?_ ?_)
      | (with_reducible refine LeO.bind ?_ (fun _ => ?_))
      | exact ih0 _ _ _
      | exact LeO.none _
      | refine LeO.ite ?_ ?_
      | refine LeO.bind ?_ (fun _ => ?_)
theorem laws_markIntS.mono : ∀ a0 a1 k, LeO (laws_markIntS.f k a0 a1) (laws_markIntS.f (k + 1) a0 a1) := by
  intro a0 a1 k
  have ih0 := laws_markIntS.mono_l k
  unfold laws_markIntS.f
  repeat' first
      | (with_reducible exact ih0 _ _ _)
      | (with_reducible exact LeO.refl _)
      | (with_reducible exact LeO.none _)
      | (with_reducible refine LeO.ite ?_ ?_)
      | (with_reducible refine LeO.bind ?_ (fun _ => ?_))
      | exact ih0 _ _ _
      | exact LeO.none _
      | refine LeO.ite ?_ ?_
      | refine LeO.bind ?_ (fun _ => ?_)
theorem laws_markIntS.len_l : ∀ (k : Nat) (x0 : List Int) (x1 : Int) (x5 : Int) (r1 : Int) (r2 : List Int), laws_markIntS.l0 k x0 x1 x5 = some (r1, r2) → r2.length = x0.length := by
  intro k
  induction k with
  | zero => intro x0 x1 x5 r1 r2 h; simp [laws_markIntS.l0] at h
  | succ k ih =>
    intro x0 x1 x5 r1 r2 h
    simp only [laws_markIntS.l0] at h
    repeat' split at h
    all_goals first
      | (cases h; done)
      | (have := ih _ _ _ _ _ h; simpa only [List.length_set] using this)
      | (simp only [Option.some.injEq, Prod.mk.injEq] at h; obtain ⟨rfl, rfl⟩ := h; rfl)
theorem laws_markIntS.len (k : Nat) (l0 : List Int) (a1 : Int) (r1 : Int) (r2 : List Int) (h : laws_markIntS.f k l0 a1 = some (r1, r2)) : r2.length = l0.length := laws_markIntS.len_l _ _ _ _ _ _ h
set_option maxRecDepth 100000 in
set_option maxHeartbeats 20000000 in
theorem laws_markIntS.ac (k : Nat) (l0 : List Int) (a1 : Int) (r1 : Int) (r2 : List Int) (h : laws_markIntS.f k l0 a1 = some (r1, r2)) :
    ACalls Try.prog 17 [.own 0 l0.length, .lit (.int .i64 a1)] [.sl 3 1 l0.length false (ints .i64 l0)] (fun v H' => v = .lit (.int .i64 r1) ∧ H' = [.sl 3 1 r2.length false (ints .i64 r2)]) := by
  refine ACalls.ofP [4] Try.func17 rfl (by exact Nat.le_of_ble_eq_true rfl) rfl (by decide) ?_
  simp only [Try.ntmps17, env0, laws_markIntS.f] at h ⊢
  repeat (first | (rw [Option.ite_none_right_eq_some] at h; obtain ⟨_, h⟩ := h) | (rw [Option.ite_none_left_eq_some] at h; obtain ⟨_, h⟩ := h) | (simp only [Option.bind_some] at h))
  refine AWp.seq ?_
  refine AWp.region ?_
  refine L.Y Y.asg ?_
  refine AList.nil ?_
  refine AWp.seq ?_
  refine AWp.seq ?_
  refine AWp.region ?_
  refine L.Y Y.asg ?_
  refine AList.nil ?_
  refine AWp.block ?_
  repeat (first | (rw [Option.ite_none_right_eq_some] at h; obtain ⟨_, h⟩ := h) | (rw [Option.ite_none_left_eq_some] at h; obtain ⟨_, h⟩ := h) | (simp only [Option.bind_some] at h))
  refine AWp.loopI (fun kk e H => kk ≤ k ∧ ∃ (x0 : List Int) (x1 : Int) (x5 : Int), e = [(0, .own 0 x0.length), (1, .lit (.int .i64 x1)), (5, .lit (.int .i64 x5))] ∧ H = [.sl 3 1 x0.length false (ints .i64 x0)] ∧ laws_markIntS.l0 kk x0 x1 x5 = some (r1, r2)) (k := k)
    ⟨_, _, ⟨Nat.le_refl _, _, _, _, rfl, rfl, h⟩, IsPart.at [] [0] base1 (H.c .nil) (E.c (E.c (E.c .nil)))⟩ ?_
  clear h
  rintro k1 e H ⟨hk2, x0, x1, x5, rfl, rfl, h⟩
  cases k1 with
  | zero => exact absurd h (by simp [laws_markIntS.l0])
  | succ k1 =>
  simp only [laws_markIntS.l0] at h
  repeat (first | (rw [Option.ite_none_right_eq_some] at h; obtain ⟨_, h⟩ := h) | (rw [Option.ite_none_left_eq_some] at h; obtain ⟨_, h⟩ := h) | (simp only [Option.bind_some] at h))
  refine AWp.seq ?_
  refine AWp.seq ?_
  refine AWp.region ?_
  refine L.Y Y.mv ?_
  refine L.Y Y.mv ?_
  refine L.Y (Y.ln Try.underlying22) ?_
  refine L.Y Y.bin ?_
  refine AList.nil ?_
  refine W.cond (fun hb => ?_) (fun hb => ?_)
  · have hb3 := hb
    try simp only [decide_eq_true_eq, decide_eq_false_iff_not, Bool.not_eq_true', Bool.not_eq_false', Bool.not_eq_true, Bool.not_eq_false, beq_iff_eq, bne_iff_ne, beq_eq_false_iff_ne, bne_eq_false_iff_eq, ne_eq, Decidable.not_not] at hb
    first | rw [if_pos hb3] at h | rw [if_neg (Bool.eq_false_iff.1 hb3)] at h | rw [if_pos hb] at h | rw [if_neg hb] at h | (simp only [hb, Bool.not_false, Bool.not_true, Bool.false_eq_true, if_true, if_false, reduceIte] at h) | skip
    repeat (first | (rw [Option.ite_none_right_eq_some] at h; obtain ⟨_, h⟩ := h) | (rw [Option.ite_none_left_eq_some] at h; obtain ⟨_, h⟩ := h) | (simp only [Option.bind_some] at h))
    refine AWp.skip ?_
    refine AWp.seq ?_
    refine AWp.block ?_
    refine AWp.seq ?_
    refine AWp.region ?_
    refine L.Y Y.mv ?_
    refine L.Y Y.mv ?_
    refine L.Y Y.mv ?_
    refine L.Y (Y.ixo Try.underlying22 Y3) ?_
    refine L.S (S.sts Y3) ?_
    refine AList.nil ?_
    refine W.kp [0, 1, 5, 9] ?_
    refine AWp.region ?_
    refine L.Y Y.mv ?_
    refine L.Y Y.bin ?_
    refine L.Y Y.asg ?_
    refine AList.nil ?_
    refine AWp.region ?_
    refine L.Y Y.mv ?_
    refine L.Y Y.bin ?_
    refine L.Y Y.asg ?_
    refine AList.nil ?_
    repeat (first | (rw [Option.ite_none_right_eq_some] at h; obtain ⟨_, h⟩ := h) | (rw [Option.ite_none_left_eq_some] at h; obtain ⟨_, h⟩ := h) | (simp only [Option.bind_some] at h))
    exact ⟨k1, by omega, _, _, ⟨by omega, _, _, _, rfl, rfl, h⟩, IsPart.at [] [0] base1 (H.c .nil) (E.c (E.c (E.c .nil)))⟩
  · have hb3 := hb
    try simp only [decide_eq_true_eq, decide_eq_false_iff_not, Bool.not_eq_true', Bool.not_eq_false', Bool.not_eq_true, Bool.not_eq_false, beq_iff_eq, bne_iff_ne, beq_eq_false_iff_ne, bne_eq_false_iff_eq, ne_eq, Decidable.not_not] at hb
    first | rw [if_pos hb3] at h | rw [if_neg (Bool.eq_false_iff.1 hb3)] at h | rw [if_pos hb] at h | rw [if_neg hb] at h | (simp only [hb, Bool.not_false, Bool.not_true, Bool.false_eq_true, if_true, if_false, reduceIte] at h) | skip
    repeat (first | (rw [Option.ite_none_right_eq_some] at h; obtain ⟨_, h⟩ := h) | (rw [Option.ite_none_left_eq_some] at h; obtain ⟨_, h⟩ := h) | (simp only [Option.bind_some] at h))
    refine AWp.exit ?_
    refine AWp.seq ?_
    refine AWp.region ?_
    refine L.Y Y.mv ?_
    refine L.Y Y.asg ?_
    refine AList.nil ?_
    repeat (first | (rw [Option.ite_none_right_eq_some] at h; obtain ⟨_, h⟩ := h) | (rw [Option.ite_none_left_eq_some] at h; obtain ⟨_, h⟩ := h) | (simp only [Option.bind_some] at h))
    simp only [Option.some.injEq, Prod.mk.injEq] at h
    obtain ⟨rfl, rfl⟩ := h
    refine AWp.ret ?_
    exact ⟨.inr rfl, [(4, _)], _, ⟨rfl, rfl⟩, IsPart.at [] [0] base1 (H.c .nil) (E.c .nil)⟩

/-! ### laws_markTable: function 16 -/
def laws_markTable.f (k : Nat) (a0_0 : Int) (a0_1 : Int) (l0_2 : List Int) (a1 : Int) : Option (Int × List Int) := (laws_markIntS.f k l0_2 a1).bind fun bt234 => (some (bt234.1, bt234.2))
theorem laws_markTable.mono : ∀ a0 a1 a2 a3 k, LeO (laws_markTable.f k a0 a1 a2 a3) (laws_markTable.f (k + 1) a0 a1 a2 a3) := by
  intro a0 a1 a2 a3 k
  unfold laws_markTable.f
  repeat' first
      | (with_reducible exact laws_markIntS.mono _ _ _)
      | (with_reducible exact LeO.refl _)
      | (with_reducible exact LeO.none _)
      | (with_reducible refine LeO.ite ?_ ?_)
      | (with_reducible refine LeO.bind ?_ (fun _ => ?_))
      | exact laws_markIntS.mono _ _ _
      | exact LeO.none _
      | refine LeO.ite ?_ ?_
      | refine LeO.bind ?_ (fun _ => ?_)
theorem laws_markTable.len (k : Nat) (a0_0 : Int) (a0_1 : Int) (l0_2 : List Int) (a1 : Int) (r1 : Int) (r2 : List Int) (h : laws_markTable.f k a0_0 a0_1 l0_2 a1 = some (r1, r2)) : r2.length = l0_2.length := by
  unfold laws_markTable.f at h
  obtain ⟨⟨p0_, p1_⟩, h1, h⟩ := Option.bind_eq_some_iff.1 h
  simp only [Option.some.injEq, Prod.mk.injEq] at h
  obtain ⟨rfl, rfl⟩ := h
  exact laws_markIntS.len _ _ _ _ _ h1
set_option maxRecDepth 100000 in
set_option maxHeartbeats 20000000 in
theorem laws_markTable.ac (k : Nat) (a0_0 : Int) (a0_1 : Int) (l0_2 : List Int) (a1 : Int) (r1 : Int) (r2 : List Int) (h : laws_markTable.f k a0_0 a0_1 l0_2 a1 = some (r1, r2)) :
    ACalls Try.prog 16 [.agg [.lit (.int .i64 a0_0), .lit (.int .i64 a0_1), .own 0 l0_2.length], .lit (.int .i64 a1)] [.sl 3 1 l0_2.length false (ints .i64 l0_2)] (fun v H' => v = .lit (.int .i64 r1) ∧ H' = [.sl 3 1 r2.length false (ints .i64 r2)]) := by
  refine ACalls.ofP [4] Try.func16 rfl (by exact Nat.le_of_ble_eq_true rfl) rfl (by decide) ?_
  simp only [Try.ntmps16, env0, laws_markTable.f] at h ⊢
  repeat (first | (rw [Option.ite_none_right_eq_some] at h; obtain ⟨_, h⟩ := h) | (rw [Option.ite_none_left_eq_some] at h; obtain ⟨_, h⟩ := h) | (simp only [Option.bind_some] at h))
  refine AWp.seq ?_
  refine AWp.region ?_
  refine L.M M.bx ?_
  refine L.Y Y.asg ?_
  refine AList.nil ?_
  refine AWp.seq ?_
  refine AWp.region ?_
  refine L.Y (Y.fa (off := 2) Try.underlying28 Y22) ?_
  refine L.S (S.ld Try.underlying22) ?_
  refine L.Y Y.mv ?_
  repeat (first | (rw [Option.ite_none_right_eq_some] at h; obtain ⟨_, h⟩ := h) | (rw [Option.ite_none_left_eq_some] at h; obtain ⟨_, h⟩ := h) | (simp only [Option.bind_some] at h))
  obtain ⟨⟨t234, t235⟩, hc1, h⟩ := Option.bind_eq_some_iff.1 h
  dsimp only at h
  have hl2 := laws_markIntS.len _ _ _ _ _ hc1
  repeat (first | (rw [Option.ite_none_right_eq_some] at h; obtain ⟨_, h⟩ := h) | (rw [Option.ite_none_left_eq_some] at h; obtain ⟨_, h⟩ := h) | (simp only [Option.bind_some] at h))
  refine L.C (C.callE (l := true) [0] Try.func17 (laws_markIntS.ac _ _ _ _ _ hc1) (H.c .nil) ?_)
  refine L.Y Y.asg ?_
  refine AList.nil ?_
  refine AWp.seq ?_
  refine W.kp [0, 1, 2, 4] ?_
  refine AWp.region ?_
  refine L.Y Y.mv ?_
  refine L.Y Y.asg ?_
  refine AList.nil ?_
  repeat (first | (rw [Option.ite_none_right_eq_some] at h; obtain ⟨_, h⟩ := h) | (rw [Option.ite_none_left_eq_some] at h; obtain ⟨_, h⟩ := h) | (simp only [Option.bind_some] at h))
  simp only [Option.some.injEq, Prod.mk.injEq] at h
  obtain ⟨rfl, rfl⟩ := h
  refine AWp.ret ?_
  exact ⟨.inr rfl, [(4, _)], _, ⟨rfl, rfl⟩, IsPart.at [] [0] base1 (H.c .nil) (E.c .nil)⟩

end Go.Proofs.Ytpippjgphndjmaa.PFnExactSplitCells
