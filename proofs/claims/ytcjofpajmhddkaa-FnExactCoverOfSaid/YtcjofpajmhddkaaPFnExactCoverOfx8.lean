-- Written by a program of this session's (wip/myprint), which drives the kit's print; parts of it written by hand. Lean checks it.
import Derived.Test.YtcjofpajmhddkaaPFnExactCoverOfx0
import Derived.Test.YtcjofpajmhddkaaPFnExactCoverOfx1
import Derived.Test.YtcjofpajmhddkaaPFnExactCoverOfx4
import Derived.Test.YtcjofpajmhddkaaPFnExactCoverOfx7
namespace Go.Proofs.Ytcjofpajmhddkaa.PFnExactCoverOf
open Go.RowKit Go.Proofs.YtcjofpajmhddkaaW.PrintWords Go.Proofs.YtcjofpajmhddkaaW.PrintLast Go.Proofs.YtcjofpajmhddkaaW.PrintMore Go.Proofs.YtcjofpajmhddkaaM
attribute [local go_sem] max2_int min2_int max_two min_two max_three min_three max_four min_four   -- for this text's walks alone
set_option linter.unusedVariables false
set_option linter.unusedSimpArgs false

/-! ### laws_FnExactCoverOf: function 11 -/
mutual
def laws_FnExactCoverOf.j0 : Nat → List Int → Bool → List Int → Bool → Bool → Int → Int → List Int → Int → Int → List Int → Int → Int → List Int → Int → Int → List Int → Option (Bool)
  | 0, _, _, _, _, _, _, _, _, _, _, _, _, _, _, _, _, _ => none
  | k + 1, x1, x7, x9, x11, x51, x237000, x237001, x237002, x253000, x253001, x253002, x259000, x259001, x259002, x269000, x269001, x269002 => if x51 = true then (some false) else ((laws_toTable.f k x237000 x237001 x237002).bind fun bt270 => ((laws_eqTable.f k x259000 x259001 x259002 bt270.1 bt270.2.1 bt270.2.2).bind fun t275 => (if t275 = true then ((laws_toIntS.f k x1).bind fun t276 => ((laws_eqIntS.f k x9 t276).bind fun t279 => (if t279 = true then ((laws_markTable.f k x259000 x259001 x259002 1).bind fun bt280 => ((laws_markIntS.f k x9 bt280.1).bind fun bt282 => (if bt282.1 < 0 then (laws_FnExactCoverOf.j1 k x1 x7 true x237000 x237001 x237002 x253000 x253001 x253002 x269000 x269001 x269002) else ((laws_eqTable.f k x269000 x269001 x269002 x253000 x253001 x253002).bind fun t284 => (if t284 = true then (laws_FnExactCoverOf.j1 k x1 x7 (x11 != x7) x237000 x237001 x237002 x253000 x253001 x253002 x269000 x269001 x269002) else (laws_FnExactCoverOf.j1 k x1 x7 true x237000 x237001 x237002 x253000 x253001 x253002 x269000 x269001 x269002)))))) else (some false)))) else (some false))))
def laws_FnExactCoverOf.j1 : Nat → List Int → Bool → Bool → Int → Int → List Int → Int → Int → List Int → Int → Int → List Int → Option (Bool)
  | 0, _, _, _, _, _, _, _, _, _, _, _, _ => none
  | k + 1, x1, x7, x80, x237000, x237001, x237002, x253000, x253001, x253002, x269000, x269001, x269002 => if x80 = true then (some false) else ((laws_markTable.f k x269000 x269001 x269002 1).bind fun bt285 => ((laws_heldTable.f k x269000 x269001 bt285.2 1).bind fun t287 => (if t287 < 0 then (some false) else (if t287 = bt285.1 then ((laws_toTable.f k x237000 x237001 x237002).bind fun bt288 => ((laws_toIntS.f k x1).bind fun t293 => ((impl_CoverOf.f k bt288.1 bt288.2.1 bt288.2.2 t293).bind fun bt296 => ((laws_eqTable.f k bt296.1 bt296.2.1 bt296.2.2.1 x253000 x253001 x253002).bind fun t303 => (if t303 = true then (laws_FnExactCoverOf.j2 k bt285.1 (bt296.2.2.2 != x7) x269000 x269001 bt285.2) else (laws_FnExactCoverOf.j2 k bt285.1 true x269000 x269001 bt285.2)))))) else (some false)))))
def laws_FnExactCoverOf.j2 : Nat → Int → Bool → Int → Int → List Int → Option (Bool)
  | 0, _, _, _, _, _ => none
  | k + 1, x13, x108, x269000, x269001, x269002 => if x108 = true then (some false) else ((laws_heldTable.f k x269000 x269001 x269002 1).bind fun t304 => (if t304 < 0 then (some false) else (if t304 = x13 then (some true) else (some false))))
end
def laws_FnExactCoverOf.f (k : Nat) (a0_0 : Int) (a0_1 : Int) (l0_2 : List Int) (l1 : List Int) : Option (Bool) := if (l1.length : Int) > 1048576 then (some true) else ((laws_szTable.f a0_0 a0_1 l0_2 1048576).bind fun t237 => (if t237 < 0 then (some true) else ((laws_toTable.f k a0_0 a0_1 l0_2).bind fun bt238 => ((laws_toIntS.f k l1).bind fun t243 => ((spec_CoverOf.f k bt238.1 bt238.2.1 bt238.2.2 t243).bind fun bt246 => ((laws_toTable.f k a0_0 a0_1 l0_2).bind fun bt253 => ((laws_toIntS.f k l1).bind fun t259 => ((impl_CoverOf.f k bt253.1 bt253.2.1 bt253.2.2 t259).bind fun bt262 => ((laws_eqTable.f k bt262.1 bt262.2.1 bt262.2.2.1 bt246.1 bt246.2.1 bt246.2.2.1).bind fun t269 => (if t269 = true then (laws_FnExactCoverOf.j0 k l1 bt246.2.2.2 t259 bt262.2.2.2 (bt262.2.2.2 != bt246.2.2.2) a0_0 a0_1 l0_2 bt246.1 bt246.2.1 bt246.2.2.1 bt253.1 bt253.2.1 bt253.2.2 bt262.1 bt262.2.1 bt262.2.2.1) else (laws_FnExactCoverOf.j0 k l1 bt246.2.2.2 t259 bt262.2.2.2 true a0_0 a0_1 l0_2 bt246.1 bt246.2.1 bt246.2.2.1 bt253.1 bt253.2.1 bt253.2.2 bt262.1 bt262.2.1 bt262.2.2.1)))))))))))
theorem laws_FnExactCoverOf.mono_l : ∀ k, (∀ y0 y1 y2 y3 y4 y5 y6 y7 y8 y9 y10 y11 y12 y13 y14 y15 y16, LeO (laws_FnExactCoverOf.j0 k y0 y1 y2 y3 y4 y5 y6 y7 y8 y9 y10 y11 y12 y13 y14 y15 y16) (laws_FnExactCoverOf.j0 (k + 1) y0 y1 y2 y3 y4 y5 y6 y7 y8 y9 y10 y11 y12 y13 y14 y15 y16)) ∧ (∀ y0 y1 y2 y3 y4 y5 y6 y7 y8 y9 y10 y11, LeO (laws_FnExactCoverOf.j1 k y0 y1 y2 y3 y4 y5 y6 y7 y8 y9 y10 y11) (laws_FnExactCoverOf.j1 (k + 1) y0 y1 y2 y3 y4 y5 y6 y7 y8 y9 y10 y11)) ∧ (∀ y0 y1 y2 y3 y4, LeO (laws_FnExactCoverOf.j2 k y0 y1 y2 y3 y4) (laws_FnExactCoverOf.j2 (k + 1) y0 y1 y2 y3 y4))
  | 0 => ⟨fun _ _ _ _ _ _ _ _ _ _ _ _ _ _ _ _ _ r h => by simp [laws_FnExactCoverOf.j0] at h, fun _ _ _ _ _ _ _ _ _ _ _ _ r h => by simp [laws_FnExactCoverOf.j1] at h, fun _ _ _ _ _ r h => by simp [laws_FnExactCoverOf.j2] at h⟩
  | k + 1 => by
    obtain ⟨ih0, ih1, ih2⟩ := laws_FnExactCoverOf.mono_l k
    refine ⟨?_, ?_, ?_⟩
    · intro y0 y1 y2 y3 y4 y5 y6 y7 y8 y9 y10 y11 y12 y13 y14 y15 y16
      unfold laws_FnExactCoverOf.j0
      repeat' first
      | (with_reducible exact ih0 _ _ _ _ _ _ _ _ _ _ _ _ _ _ _ _ _)
      | (with_reducible exact ih1 _ _ _ _ _ _ _ _ _ _ _ _)
      | (with_reducible exact ih2 _ _ _ _ _)
      | (with_reducible exact impl_CoverOf.mono _ _ _ _ _)
      | (with_reducible exact laws_eqIntS.mono _ _ _)
      | (with_reducible exact laws_eqTable.mono _ _ _ _ _ _ _)
      | (with_reducible exact laws_heldTable.mono _ _ _ _ _)
      | (with_reducible exact laws_markIntS.mono _ _ _)
      | (with_reducible exact laws_markTable.mono _ _ _ _ _)
      | (with_reducible exact laws_toIntS.mono _ _)
      | (with_reducible exact laws_toTable.mono _ _ _ _)
      | (with_reducible exact spec_CoverOf.mono _ _ _ _ _)
      | (with_reducible exact LeO.refl _)
      | (with_reducible exact LeO.none _)
      | (with_reducible refine LeO.ite ?_ ?_)
      | (with_reducible refine LeO.bind ?_ (fun _ => ?_))
      | exact ih0 _ _ _ _ _ _ _ _ _ _ _ _ _ _ _ _ _
      | exact ih1 _ _ _ _ _ _ _ _ _ _ _ _
      | exact ih2 _ _ _ _ _
      | exact impl_CoverOf.mono _ _ _ _ _
      | exact laws_eqIntS.mono _ _ _
      | exact laws_eqTable.mono _ _ _ _ _ _ _
      | exact laws_heldTable.mono _ _ _ _ _
      | exact laws_markIntS.mono _ _ _
      | exact laws_markTable.mono _ _ _ _ _
      | exact laws_toIntS.mono _ _
      | exact laws_toTable.mono _ _ _ _
      | exact spec_CoverOf.mono _ _ _ _ _
      | exact LeO.none _
      | refine LeO.ite ?_ ?_
      | refine LeO.bind ?_ (fun _ => ?_)
    · intro y0 y1 y2 y3 y4 y5 y6 y7 y8 y9 y10 y11
      unfold laws_FnExactCoverOf.j1
      repeat' first
      | (with_reducible exact ih0 _ _ _ _ _ _ _ _ _ _ _ _ _ _ _ _ _)
      | (with_reducible exact ih1 _ _ _ _ _ _ _ _ _ _ _ _)
      | (with_reducible exact ih2 _ _ _ _ _)
      | (with_reducible exact impl_CoverOf.mono _ _ _ _ _)
      | (with_reducible exact laws_eqIntS.mono _ _ _)
      | (with_reducible exact laws_eqTable.mono _ _ _ _ _ _ _)
      | (with_reducible exact laws_heldTable.mono _ _ _ _ _)
      | (with_reducible exact laws_markIntS.mono _ _ _)
      | (with_reducible exact laws_markTable.mono _ _ _ _ _)
      | (with_reducible exact laws_toIntS.mono _ _)
      | (with_reducible exact laws_toTable.mono _ _ _ _)
      | (with_reducible exact spec_CoverOf.mono _ _ _ _ _)
      | (with_reducible exact LeO.refl _)
      | (with_reducible exact LeO.none _)
      | (with_reducible refine LeO.ite ?_ ?_)
      | (with_reducible refine LeO.bind ?_ (fun _ => ?_))
      | exact ih0 _ _ _ _ _ _ _ _ _ _ _ _ _ _ _ _ _
      | exact ih1 _ _ _ _ _ _ _ _ _ _ _ _
      | exact ih2 _ _ _ _ _
      | exact impl_CoverOf.mono _ _ _ _ _
      | exact laws_eqIntS.mono _ _ _
      | exact laws_eqTable.mono _ _ _ _ _ _ _
      | exact laws_heldTable.mono _ _ _ _ _
      | exact laws_markIntS.mono _ _ _
      | exact laws_markTable.mono _ _ _ _ _
      | exact laws_toIntS.mono _ _
      | exact laws_toTable.mono _ _ _ _
      | exact spec_CoverOf.mono _ _ _ _ _
      | exact LeO.none _
      | refine LeO.ite ?_ ?_
      | refine LeO.bind ?_ (fun _ => ?_)
    · intro y0 y1 y2 y3 y4
      unfold laws_FnExactCoverOf.j2
      repeat' first
      | (with_reducible exact ih0 _ _ _ _ _ _ _ _ _ _ _ _ _ _ _ _ _)
      | (with_reducible exact ih1 _ _ _ _ _ _ _ _ _ _ _ _)
      | (with_reducible exact ih2 _ _ _ _ _)
      | (with_reducible exact impl_CoverOf.mono _ _ _ _ _)
      | (with_reducible exact laws_eqIntS.mono _ _ _)
      | (with_reducible exact laws_eqTable.mono _ _ _ _ _ _ _)
      | (with_reducible exact laws_heldTable.mono _ _ _ _ _)
      | (with_reducible exact laws_markIntS.mono _ _ _)
      | (with_reducible exact laws_markTable.mono _ _ _ _ _)
      | (with_reducible exact laws_toIntS.mono _ _)
      | (with_reducible exact laws_toTable.mono _ _ _ _)
      | (with_reducible exact spec_CoverOf.mono _ _ _ _ _)
      | (with_reducible exact LeO.refl _)
      | (with_reducible exact LeO.none _)
      | (with_reducible refine LeO.ite ?_ ?_)
      | (with_reducible refine LeO.bind ?_ (fun _ => ?_))
      | exact ih0 _ _ _ _ _ _ _ _ _ _ _ _ _ _ _ _ _
      | exact ih1 _ _ _ _ _ _ _ _ _ _ _ _
      | exact ih2 _ _ _ _ _
      | exact impl_CoverOf.mono _ _ _ _ _
      | exact laws_eqIntS.mono _ _ _
      | exact laws_eqTable.mono _ _ _ _ _ _ _
      | exact laws_heldTable.mono _ _ _ _ _
      | exact laws_markIntS.mono _ _ _
      | exact laws_markTable.mono _ _ _ _ _
      | exact laws_toIntS.mono _ _
      | exact laws_toTable.mono _ _ _ _
      | exact spec_CoverOf.mono _ _ _ _ _
      | exact LeO.none _
      | refine LeO.ite ?_ ?_
      | refine LeO.bind ?_ (fun _ => ?_)
theorem laws_FnExactCoverOf.mono : ∀ a0 a1 a2 a3 k, LeO (laws_FnExactCoverOf.f k a0 a1 a2 a3) (laws_FnExactCoverOf.f (k + 1) a0 a1 a2 a3) := by
  intro a0 a1 a2 a3 k
  obtain ⟨ih0, ih1, ih2⟩ := laws_FnExactCoverOf.mono_l k
  unfold laws_FnExactCoverOf.f
  repeat' first
      | (with_reducible exact ih0 _ _ _ _ _ _ _ _ _ _ _ _ _ _ _ _ _)
      | (with_reducible exact ih1 _ _ _ _ _ _ _ _ _ _ _ _)
      | (with_reducible exact ih2 _ _ _ _ _)
      | (with_reducible exact impl_CoverOf.mono _ _ _ _ _)
      | (with_reducible exact laws_eqIntS.mono _ _ _)
      | (with_reducible exact laws_eqTable.mono _ _ _ _ _ _ _)
      | (with_reducible exact laws_heldTable.mono _ _ _ _ _)
      | (with_reducible exact laws_markIntS.mono _ _ _)
      | (with_reducible exact laws_markTable.mono _ _ _ _ _)
      | (with_reducible exact laws_toIntS.mono _ _)
      | (with_reducible exact laws_toTable.mono _ _ _ _)
      | (with_reducible exact spec_CoverOf.mono _ _ _ _ _)
      | (with_reducible exact LeO.refl _)
      | (with_reducible exact LeO.none _)
      | (with_reducible refine LeO.ite ?_ ?_)
      | (with_reducible refine LeO.bind ?_ (fun _ => ?_))
      | exact ih0 _ _ _ _ _ _ _ _ _ _ _ _ _ _ _ _ _
      | exact ih1 _ _ _ _ _ _ _ _ _ _ _ _
      | exact ih2 _ _ _ _ _
      | exact impl_CoverOf.mono _ _ _ _ _
      | exact laws_eqIntS.mono _ _ _
      | exact laws_eqTable.mono _ _ _ _ _ _ _
      | exact laws_heldTable.mono _ _ _ _ _
      | exact laws_markIntS.mono _ _ _
      | exact laws_markTable.mono _ _ _ _ _
      | exact laws_toIntS.mono _ _
      | exact laws_toTable.mono _ _ _ _
      | exact spec_CoverOf.mono _ _ _ _ _
      | exact LeO.none _
      | refine LeO.ite ?_ ?_
      | refine LeO.bind ?_ (fun _ => ?_)
set_option maxHeartbeats 8000000 in
set_option maxRecDepth 100000 in
theorem laws_FnExactCoverOf.calls (k : Nat) (a0_0 : Int) (a0_1 : Int) (A0_2 : Option Addr) (c0_2 : Nat) (l0_2 : List Int) (A1 : Option Addr) (c1 : Nat) (l1 : List Int) (w : World) (hr0_2 : Kd.C (Kd.int .i64) w A0_2 l0_2.length l0_2) (hc0_2 : l0_2.length ≤ c0_2) (hr1 : Kd.C (Kd.int .i64) w A1 l1.length l1) (hc1 : l1.length ≤ c1) (h : laws_FnExactCoverOf.f k a0_0 a0_1 l0_2 l1 = some true) :
    Calls Try.prog 11 #[.agg #[.int .i64 a0_0, .int .i64 a0_1, .slice A0_2 l0_2.length c0_2], .slice A1 l1.length c1] w fun e w' => e = .returned (.bool true) ∧ Below w.heap.size w w' := by
  have hu24 := Try.underlying24
  have hu28 := Try.underlying28
  have HR0_2 := Aside0.mk hr0_2
  have HC0_2 := Aside0.mk hc0_2
  clear hr0_2 hc0_2
  have HR1 := Aside0.mk hr1
  have HC1 := Aside0.mk hc1
  clear hr1 hc1
  have HB := Aside0.mk (Below.refl w.heap.size w)
  have H : (if (l1.length : Int) > 1048576 then (some true) else ((laws_szTable.f a0_0 a0_1 l0_2 1048576).bind fun t237 => (if t237 < 0 then (some true) else ((laws_toTable.f k a0_0 a0_1 l0_2).bind fun bt238 => ((laws_toIntS.f k l1).bind fun t243 => ((spec_CoverOf.f k bt238.1 bt238.2.1 bt238.2.2 t243).bind fun bt246 => ((laws_toTable.f k a0_0 a0_1 l0_2).bind fun bt253 => ((laws_toIntS.f k l1).bind fun t259 => ((impl_CoverOf.f k bt253.1 bt253.2.1 bt253.2.2 t259).bind fun bt262 => ((laws_eqTable.f k bt262.1 bt262.2.1 bt262.2.2.1 bt246.1 bt246.2.1 bt246.2.2.1).bind fun t269 => (if t269 = true then (laws_FnExactCoverOf.j0 k l1 bt246.2.2.2 t259 bt262.2.2.2 (bt262.2.2.2 != bt246.2.2.2) a0_0 a0_1 l0_2 bt246.1 bt246.2.1 bt246.2.2.1 bt253.1 bt253.2.1 bt253.2.2 bt262.1 bt262.2.1 bt262.2.2.1) else (laws_FnExactCoverOf.j0 k l1 bt246.2.2.2 t259 bt262.2.2.2 true a0_0 a0_1 l0_2 bt246.1 bt246.2.1 bt246.2.2.1 bt253.1 bt253.2.1 bt253.2.2 bt262.1 bt262.2.1 bt262.2.2.1)))))))))))) = some true := h
  clear h
  by_cases c3 : (l1.length : Int) > 1048576
  · rw [if_pos c3] at H
    have c3b0 : decide (1048576 < (l1.length : Int)) = true := decide_eq_true c3
    have c3b1 : decide (1048576 < l1.length) = true := decide_eq_true (by omega)
    clear c3
    clear H
    go_enter Try.func11, Try.ntmps11
    go_wp2_with (first | ((with_reducible refine gate_dst (N := 2) rfl ?_); refine box_event ?hg (N := 2) ?hd (cs := #[.int .i64 a0_0, .int .i64 a0_1, .slice A0_2 l0_2.length c0_2]) (t := 24) ?hr ?_; (case hd => rfl); (case hg => rfl); (case hr => first | (go_simp; done) | (go_simp; rfl)); intro gb236 hg w4 hbox hb; have n0_ := Aside0.mk (below_step (by repeat (first | (with_reducible first | exact HB.out | apply below_alloc | apply pw_below_drewN | apply below_drew1) | exact HB.out)) hb); have n1_ := Aside0.mk (hbox); have n2_ := Aside0.mk ((by rw [hg]; exact (below_size (by repeat (first | (with_reducible first | exact HB.out | apply below_alloc | apply pw_below_drewN | apply below_drew1) | exact HB.out))) : w.heap.size ≤ gb236)); have n3_ := Aside0.mk ((by rw [hg]; exact (below_size (by repeat (first | (with_reducible first | exact HB.out | apply below_alloc | apply pw_below_drewN | apply below_drew1) | exact HB.out))) : w.heap.size ≤ gb236)); clear HB; have HB := n0_; have BK236 := n1_; have GW236 := n2_; have GE236 := n3_; clear n0_ n1_ n2_ n3_; clear hb hbox hg))
    go_ret
    exact ⟨by first | rfl | (simp [errW_none, errW_some] <;> rfl) | (simp [*, errW_none, errW_some] <;> rfl), by repeat (first | (with_reducible first | exact HB.out | apply below_alloc | apply pw_below_drewN | apply below_drew1 | refine below_set ?_ GE236.out) | exact HB.out)⟩
  · rw [if_neg c3] at H
    have c3b0 : decide (1048576 < (l1.length : Int)) = false := decide_eq_false c3
    have c3b1 : decide (1048576 < l1.length) = false := decide_eq_false (by omega)
    clear c3
    replace H := Option.bind_eq_some_iff.mp H
    obtain ⟨t237, A50, H⟩ := H
    replace H : (if t237 < 0 then (some true) else ((laws_toTable.f k a0_0 a0_1 l0_2).bind fun bt238 => ((laws_toIntS.f k l1).bind fun t243 => ((spec_CoverOf.f k bt238.1 bt238.2.1 bt238.2.2 t243).bind fun bt246 => ((laws_toTable.f k a0_0 a0_1 l0_2).bind fun bt253 => ((laws_toIntS.f k l1).bind fun t259 => ((impl_CoverOf.f k bt253.1 bt253.2.1 bt253.2.2 t259).bind fun bt262 => ((laws_eqTable.f k bt262.1 bt262.2.1 bt262.2.2.1 bt246.1 bt246.2.1 bt246.2.2.1).bind fun t269 => (if t269 = true then (laws_FnExactCoverOf.j0 k l1 bt246.2.2.2 t259 bt262.2.2.2 (bt262.2.2.2 != bt246.2.2.2) a0_0 a0_1 l0_2 bt246.1 bt246.2.1 bt246.2.2.1 bt253.1 bt253.2.1 bt253.2.2 bt262.1 bt262.2.1 bt262.2.2.1) else (laws_FnExactCoverOf.j0 k l1 bt246.2.2.2 t259 bt262.2.2.2 true a0_0 a0_1 l0_2 bt246.1 bt246.2.1 bt246.2.2.1 bt253.1 bt253.2.1 bt253.2.2 bt262.1 bt262.2.1 bt262.2.2.1)))))))))) = some true := H
    have A5 := Aside0.mk A50
    clear A50
    by_cases c6 : t237 < 0
    · rw [if_pos c6] at H
      have c6b0 : decide (t237 < 0) = true := decide_eq_true c6
      clear c6
      clear H
      go_enter Try.func11, Try.ntmps11
      go_wp2_with (first | ((with_reducible refine gate_dst (N := 2) rfl ?_); refine box_event ?hg (N := 2) ?hd (cs := #[.int .i64 a0_0, .int .i64 a0_1, .slice A0_2 l0_2.length c0_2]) (t := 24) ?hr ?_; (case hd => rfl); (case hg => rfl); (case hr => first | (go_simp; done) | (go_simp; rfl)); intro gb236 hg w7 hbox hb; have n0_ := Aside0.mk (below_step (by repeat (first | (with_reducible first | exact HB.out | apply below_alloc | apply pw_below_drewN | apply below_drew1) | exact HB.out)) hb); have n1_ := Aside0.mk (hbox); have n2_ := Aside0.mk ((by rw [hg]; exact (below_size (by repeat (first | (with_reducible first | exact HB.out | apply below_alloc | apply pw_below_drewN | apply below_drew1) | exact HB.out))) : w.heap.size ≤ gb236)); have n3_ := Aside0.mk ((by rw [hg]; exact (below_size (by repeat (first | (with_reducible first | exact HB.out | apply below_alloc | apply pw_below_drewN | apply below_drew1) | exact HB.out))) : w.heap.size ≤ gb236)); clear HB; have HB := n0_; have BK236 := n1_; have GW236 := n2_; have GE236 := n3_; clear n0_ n1_ n2_ n3_; clear hb hbox hg; have hcz8_0 : w7.cell? ⟨gb236, 0, none⟩ = some (.int .i64 a0_0) := (blk_cell BK236.out 0).trans rfl; have hcz8_1 : w7.cell? ⟨gb236, 1, none⟩ = some (.int .i64 a0_1) := (blk_cell BK236.out 1).trans rfl; have hcz8_2 : w7.cell? ⟨gb236, 2, none⟩ = some (.slice A0_2 l0_2.length c0_2) := (blk_cell BK236.out 2).trans rfl; have hfz8_0 := blk_frozen BK236.out 0; have hfz8_1 := blk_frozen BK236.out 1; have hfz8_2 := blk_frozen BK236.out 2) | ((with_reducible refine gate_callee (f := 12) rfl ?_); refine goesL_ (some 22) rfl rfl Try.func12 (by kernel_rfl) rfl #[.agg #[.int .i64 a0_0, .int .i64 a0_1, .slice A0_2 l0_2.length c0_2], .int .i64 1048576] rfl (by (try simp only [List.map_toArray, List.map_cons, List.map_nil]); first | done | rfl | (simp only [List.length_drop, List.length_take]; rfl)) ?_; (with_reducible refine (laws_szTable.calls a0_0 a0_1 _ _ l0_2 1048576 t237 _ ?side1 ?side2 A5.out).mono ?_); (case side1 => repeat (first | exact (Kd.C_below HR0_2.out HB.out) | (with_reducible refine Kd.C_alloc ?_ _) | (with_reducible refine Kd.C_drewN ?_ _) | (with_reducible refine Kd.C_drew ?_))); (case side2 => exact HC0_2.out); rintro e w9 ⟨rfl, hb⟩; refine ⟨_, rfl, ?_⟩; have n0_ := Aside0.mk (blk_below (g := gb236) (o := .cells #[.int .i64 a0_0, .int .i64 a0_1, .slice A0_2 l0_2.length c0_2] 24 (0, 0)) (by (with_reducible repeat (first | refine blk_drewN ?_ _ | refine blk_drew ?_ | refine blk_alloc ?_ _)); exact BK236.out) hb); have n1_ := Aside0.mk (below_step (by repeat (first | (with_reducible first | exact HB.out | apply below_alloc | apply pw_below_drewN | apply below_drew1 | refine below_set ?_ GE236.out) | exact HB.out)) hb); clear BK236; clear HB; have BK236 := n0_; have HB := n1_; clear n0_ n1_; (try clear hb); (try clear hb2); (try clear hk); (try clear hi)))
      go_ret
      exact ⟨by first | rfl | (simp [errW_none, errW_some] <;> rfl) | (simp [*, errW_none, errW_some] <;> rfl), by repeat (first | (with_reducible first | exact HB.out | apply below_alloc | apply pw_below_drewN | apply below_drew1 | refine below_set ?_ GE236.out) | exact HB.out)⟩
    · rw [if_neg c6] at H
      have c6b0 : decide (t237 < 0) = false := decide_eq_false c6
      clear c6
      replace H := Option.bind_eq_some_iff.mp H
      obtain ⟨⟨t238, t239, t240⟩, A100, H⟩ := H
      replace H : ((laws_toIntS.f k l1).bind fun t243 => ((spec_CoverOf.f k t238 t239 t240 t243).bind fun bt246 => ((laws_toTable.f k a0_0 a0_1 l0_2).bind fun bt253 => ((laws_toIntS.f k l1).bind fun t259 => ((impl_CoverOf.f k bt253.1 bt253.2.1 bt253.2.2 t259).bind fun bt262 => ((laws_eqTable.f k bt262.1 bt262.2.1 bt262.2.2.1 bt246.1 bt246.2.1 bt246.2.2.1).bind fun t269 => (if t269 = true then (laws_FnExactCoverOf.j0 k l1 bt246.2.2.2 t259 bt262.2.2.2 (bt262.2.2.2 != bt246.2.2.2) a0_0 a0_1 l0_2 bt246.1 bt246.2.1 bt246.2.2.1 bt253.1 bt253.2.1 bt253.2.2 bt262.1 bt262.2.1 bt262.2.2.1) else (laws_FnExactCoverOf.j0 k l1 bt246.2.2.2 t259 bt262.2.2.2 true a0_0 a0_1 l0_2 bt246.1 bt246.2.1 bt246.2.2.1 bt253.1 bt253.2.1 bt253.2.2 bt262.1 bt262.2.1 bt262.2.2.1)))))))) = some true := H
      have A10 := Aside0.mk A100
      clear A100
      replace H := Option.bind_eq_some_iff.mp H
      obtain ⟨t243, A110, H⟩ := H
      replace H : ((spec_CoverOf.f k t238 t239 t240 t243).bind fun bt246 => ((laws_toTable.f k a0_0 a0_1 l0_2).bind fun bt253 => ((laws_toIntS.f k l1).bind fun t259 => ((impl_CoverOf.f k bt253.1 bt253.2.1 bt253.2.2 t259).bind fun bt262 => ((laws_eqTable.f k bt262.1 bt262.2.1 bt262.2.2.1 bt246.1 bt246.2.1 bt246.2.2.1).bind fun t269 => (if t269 = true then (laws_FnExactCoverOf.j0 k l1 bt246.2.2.2 t259 bt262.2.2.2 (bt262.2.2.2 != bt246.2.2.2) a0_0 a0_1 l0_2 bt246.1 bt246.2.1 bt246.2.2.1 bt253.1 bt253.2.1 bt253.2.2 bt262.1 bt262.2.1 bt262.2.2.1) else (laws_FnExactCoverOf.j0 k l1 bt246.2.2.2 t259 bt262.2.2.2 true a0_0 a0_1 l0_2 bt246.1 bt246.2.1 bt246.2.2.1 bt253.1 bt253.2.1 bt253.2.2 bt262.1 bt262.2.1 bt262.2.2.1))))))) = some true := H
      have A11 := Aside0.mk A110
      clear A110
      replace H := Option.bind_eq_some_iff.mp H
      obtain ⟨⟨t246, t247, t248, t251⟩, A120, H⟩ := H
      replace H : ((laws_toTable.f k a0_0 a0_1 l0_2).bind fun bt253 => ((laws_toIntS.f k l1).bind fun t259 => ((impl_CoverOf.f k bt253.1 bt253.2.1 bt253.2.2 t259).bind fun bt262 => ((laws_eqTable.f k bt262.1 bt262.2.1 bt262.2.2.1 t246 t247 t248).bind fun t269 => (if t269 = true then (laws_FnExactCoverOf.j0 k l1 t251 t259 bt262.2.2.2 (bt262.2.2.2 != t251) a0_0 a0_1 l0_2 t246 t247 t248 bt253.1 bt253.2.1 bt253.2.2 bt262.1 bt262.2.1 bt262.2.2.1) else (laws_FnExactCoverOf.j0 k l1 t251 t259 bt262.2.2.2 true a0_0 a0_1 l0_2 t246 t247 t248 bt253.1 bt253.2.1 bt253.2.2 bt262.1 bt262.2.1 bt262.2.2.1)))))) = some true := H
      have A12 := Aside0.mk A120
      clear A120
      replace H := Option.bind_eq_some_iff.mp H
      obtain ⟨⟨t253, t254, t255⟩, A130, H⟩ := H
      replace H : ((laws_toIntS.f k l1).bind fun t259 => ((impl_CoverOf.f k t253 t254 t255 t259).bind fun bt262 => ((laws_eqTable.f k bt262.1 bt262.2.1 bt262.2.2.1 t246 t247 t248).bind fun t269 => (if t269 = true then (laws_FnExactCoverOf.j0 k l1 t251 t259 bt262.2.2.2 (bt262.2.2.2 != t251) a0_0 a0_1 l0_2 t246 t247 t248 t253 t254 t255 bt262.1 bt262.2.1 bt262.2.2.1) else (laws_FnExactCoverOf.j0 k l1 t251 t259 bt262.2.2.2 true a0_0 a0_1 l0_2 t246 t247 t248 t253 t254 t255 bt262.1 bt262.2.1 bt262.2.2.1))))) = some true := H
      have A13 := Aside0.mk A130
      clear A130
      replace H := Option.bind_eq_some_iff.mp H
      obtain ⟨t259, A140, H⟩ := H
      replace H : ((impl_CoverOf.f k t253 t254 t255 t259).bind fun bt262 => ((laws_eqTable.f k bt262.1 bt262.2.1 bt262.2.2.1 t246 t247 t248).bind fun t269 => (if t269 = true then (laws_FnExactCoverOf.j0 k l1 t251 t259 bt262.2.2.2 (bt262.2.2.2 != t251) a0_0 a0_1 l0_2 t246 t247 t248 t253 t254 t255 bt262.1 bt262.2.1 bt262.2.2.1) else (laws_FnExactCoverOf.j0 k l1 t251 t259 bt262.2.2.2 true a0_0 a0_1 l0_2 t246 t247 t248 t253 t254 t255 bt262.1 bt262.2.1 bt262.2.2.1)))) = some true := H
      have A14 := Aside0.mk A140
      clear A140
      replace H := Option.bind_eq_some_iff.mp H
      obtain ⟨⟨t262, t263, t264, t267⟩, A150, H⟩ := H
      replace H : ((laws_eqTable.f k t262 t263 t264 t246 t247 t248).bind fun t269 => (if t269 = true then (laws_FnExactCoverOf.j0 k l1 t251 t259 t267 (t267 != t251) a0_0 a0_1 l0_2 t246 t247 t248 t253 t254 t255 t262 t263 t264) else (laws_FnExactCoverOf.j0 k l1 t251 t259 t267 true a0_0 a0_1 l0_2 t246 t247 t248 t253 t254 t255 t262 t263 t264))) = some true := H
      have A15 := Aside0.mk A150
      clear A150
      have HC16 := Aside0.mk H
      clear H
      go_enter Try.func11, Try.ntmps11
      go_upto_region 11 with (first | ((with_reducible refine gate_dst (N := 2) rfl ?_); refine box_event ?hg (N := 2) ?hd (cs := #[.int .i64 a0_0, .int .i64 a0_1, .slice A0_2 l0_2.length c0_2]) (t := 24) ?hr ?_; (case hd => rfl); (case hg => rfl); (case hr => first | (go_simp; done) | (go_simp; rfl)); intro gb236 hg w17 hbox hb; have n0_ := Aside0.mk (below_step (by repeat (first | (with_reducible first | exact HB.out | apply below_alloc | apply pw_below_drewN | apply below_drew1) | exact HB.out)) hb); have n1_ := Aside0.mk (hbox); have n2_ := Aside0.mk ((by rw [hg]; exact (below_size (by repeat (first | (with_reducible first | exact HB.out | apply below_alloc | apply pw_below_drewN | apply below_drew1) | exact HB.out))) : w.heap.size ≤ gb236)); have n3_ := Aside0.mk ((by rw [hg]; exact (below_size (by repeat (first | (with_reducible first | exact HB.out | apply below_alloc | apply pw_below_drewN | apply below_drew1) | exact HB.out))) : w.heap.size ≤ gb236)); clear HB; have HB := n0_; have BK236 := n1_; have GW236 := n2_; have GE236 := n3_; clear n0_ n1_ n2_ n3_; clear hb hbox hg; have hcz18_0 : w17.cell? ⟨gb236, 0, none⟩ = some (.int .i64 a0_0) := (blk_cell BK236.out 0).trans rfl; have hcz18_1 : w17.cell? ⟨gb236, 1, none⟩ = some (.int .i64 a0_1) := (blk_cell BK236.out 1).trans rfl; have hcz18_2 : w17.cell? ⟨gb236, 2, none⟩ = some (.slice A0_2 l0_2.length c0_2) := (blk_cell BK236.out 2).trans rfl; have hfz18_0 := blk_frozen BK236.out 0; have hfz18_1 := blk_frozen BK236.out 1; have hfz18_2 := blk_frozen BK236.out 2) | ((with_reducible refine gate_callee (f := 12) rfl ?_); refine goesL_ (some 22) rfl rfl Try.func12 (by kernel_rfl) rfl #[.agg #[.int .i64 a0_0, .int .i64 a0_1, .slice A0_2 l0_2.length c0_2], .int .i64 1048576] rfl (by (try simp only [List.map_toArray, List.map_cons, List.map_nil]); first | done | rfl | (simp only [List.length_drop, List.length_take]; rfl)) ?_; (with_reducible refine (laws_szTable.calls a0_0 a0_1 _ _ l0_2 1048576 t237 _ ?side1 ?side2 A5.out).mono ?_); (case side1 => repeat (first | exact (Kd.C_below HR0_2.out HB.out) | (with_reducible refine Kd.C_alloc ?_ _) | (with_reducible refine Kd.C_drewN ?_ _) | (with_reducible refine Kd.C_drew ?_))); (case side2 => exact HC0_2.out); rintro e w19 ⟨rfl, hb⟩; refine ⟨_, rfl, ?_⟩; have n0_ := Aside0.mk (blk_below (g := gb236) (o := .cells #[.int .i64 a0_0, .int .i64 a0_1, .slice A0_2 l0_2.length c0_2] 24 (0, 0)) (by (with_reducible repeat (first | refine blk_drewN ?_ _ | refine blk_drew ?_ | refine blk_alloc ?_ _)); exact BK236.out) hb); have n1_ := Aside0.mk (below_step (by repeat (first | (with_reducible first | exact HB.out | apply below_alloc | apply pw_below_drewN | apply below_drew1 | refine below_set ?_ GE236.out) | exact HB.out)) hb); clear BK236; clear HB; have BK236 := n0_; have HB := n1_; clear n0_ n1_; (try clear hb); (try clear hb2); (try clear hk); (try clear hi); have hcz20_0 : w19.cell? ⟨gb236, 0, none⟩ = some (.int .i64 a0_0) := (blk_cell BK236.out 0).trans rfl; have hcz20_1 : w19.cell? ⟨gb236, 1, none⟩ = some (.int .i64 a0_1) := (blk_cell BK236.out 1).trans rfl; have hcz20_2 : w19.cell? ⟨gb236, 2, none⟩ = some (.slice A0_2 l0_2.length c0_2) := (blk_cell BK236.out 2).trans rfl; have hfz20_0 := blk_frozen BK236.out 0; have hfz20_1 := blk_frozen BK236.out 1; have hfz20_2 := blk_frozen BK236.out 2) | ((with_reducible refine gate_callee (f := 14) rfl ?_); refine goesL_ (some 27) rfl rfl Try.func14 (by kernel_rfl) rfl #[.agg #[.int .i64 a0_0, .int .i64 a0_1, .slice A0_2 l0_2.length c0_2]] rfl (by (try simp only [List.map_toArray, List.map_cons, List.map_nil]); first | done | rfl | (simp only [List.length_drop, List.length_take]; rfl)) ?_; (with_reducible refine (laws_toTable.calls k a0_0 a0_1 _ _ l0_2 t238 t239 t240 _ ?side1 ?side2 A10.out).mono ?_); (case side1 => repeat (first | exact (Kd.C_below HR0_2.out HB.out) | (with_reducible refine Kd.C_alloc ?_ _) | (with_reducible refine Kd.C_drewN ?_ _) | (with_reducible refine Kd.C_drew ?_))); (case side2 => exact HC0_2.out); rintro e w21 ⟨v241, rfl, ho0, hb⟩; refine ⟨_, rfl, ?_⟩; have n0_ := Aside0.mk (Kd.R_lower ho0 (below_size (by repeat (first | (with_reducible first | exact HB.out | apply below_alloc | apply pw_below_drewN | apply below_drew1 | refine below_set ?_ GE236.out) | exact HB.out)))); have n1_ := Aside0.mk (blk_below (g := gb236) (o := .cells #[.int .i64 a0_0, .int .i64 a0_1, .slice A0_2 l0_2.length c0_2] 24 (0, 0)) (by (with_reducible repeat (first | refine blk_drewN ?_ _ | refine blk_drew ?_ | refine blk_alloc ?_ _)); exact BK236.out) hb); have n2_ := Aside0.mk (below_step (by repeat (first | (with_reducible first | exact HB.out | apply below_alloc | apply pw_below_drewN | apply below_drew1 | refine below_set ?_ GE236.out) | exact HB.out)) hb); clear BK236; clear HB; have HO242 := n0_; have BK236 := n1_; have HB := n2_; clear n0_ n1_ n2_; (try clear hb); (try clear hb2); (try clear hk); (try clear hi); (try clear ho0)) | ((with_reducible refine gate_callee (f := 38) rfl ?_); refine goesL_ (some 29) rfl rfl Try.func38 (by kernel_rfl) rfl #[.slice A1 l1.length c1] rfl (by (try simp only [List.map_toArray, List.map_cons, List.map_nil]); first | done | rfl | (simp only [List.length_drop, List.length_take]; rfl)) ?_; (with_reducible refine (laws_toIntS.calls k _ _ l1 t243 _ ?side1 ?side2 A11.out).mono ?_); (case side1 => repeat (first | exact (Kd.C_below HR1.out HB.out) | (with_reducible refine Kd.C_alloc ?_ _) | (with_reducible refine Kd.C_drewN ?_ _) | (with_reducible refine Kd.C_drew ?_))); (case side2 => exact HC1.out); rintro e w22 ⟨v244, rfl, ho0, hb⟩; refine ⟨_, rfl, ?_⟩; have n0_ := Aside0.mk (Kd.R_elder' (by (with_reducible repeat (first | apply Kd.R_alloc | apply Kd.R_drewN | apply Kd.R_drew)); exact HO242.out) (Kd.R_base ho0) hb); have n1_ := Aside0.mk (Kd.R_lower (Kd.R_new' ho0 (Kd.R_lt (by (with_reducible repeat (first | apply Kd.R_alloc | apply Kd.R_drewN | apply Kd.R_drew)); exact HO242.out))) (below_size (by repeat (first | (with_reducible first | exact HB.out | apply below_alloc | apply pw_below_drewN | apply below_drew1 | refine below_set ?_ GE236.out) | exact HB.out)))); have n2_ := Aside0.mk (blk_below (g := gb236) (o := .cells #[.int .i64 a0_0, .int .i64 a0_1, .slice A0_2 l0_2.length c0_2] 24 (0, 0)) (by (with_reducible repeat (first | refine blk_drewN ?_ _ | refine blk_drew ?_ | refine blk_alloc ?_ _)); exact BK236.out) hb); have n3_ := Aside0.mk (below_step (by repeat (first | (with_reducible first | exact HB.out | apply below_alloc | apply pw_below_drewN | apply below_drew1 | refine below_set ?_ GE236.out) | exact HB.out)) hb); clear HO242; clear BK236; clear HB; have HO242 := n0_; have HO245 := n1_; have BK236 := n2_; have HB := n3_; clear n0_ n1_ n2_ n3_; (try clear hb); (try clear hb2); (try clear hk); (try clear hi); (try clear ho0); obtain ⟨Ao23, co23, eo23⟩ := Kd.R_slice HO242.out; subst eo23; obtain ⟨Ao24, co24, eo24⟩ := Kd.R_slice HO245.out; subst eo24) | ((with_reducible refine gate_callee (f := 40) rfl ?_); refine goesL_ (some 30) rfl rfl Try.func40 (by kernel_rfl) rfl #[.agg #[.int .i64 t238, .int .i64 t239, .slice Ao23 t240.length co23], .slice Ao24 t243.length co24] rfl (by (try simp only [List.map_toArray, List.map_cons, List.map_nil]); first | done | rfl | (simp only [List.length_drop, List.length_take]; rfl)) ?_; (with_reducible refine (spec_CoverOf.calls k t238 t239 _ _ t240 _ _ t243 t246 t247 t248 t251 _ ?side1 ?side2 ?side3 ?side4 A12.out).mono ?_); (case side1 => repeat (first | exact (Kd.R_reads' HO242.out).2.2 | (with_reducible refine Kd.C_alloc ?_ _) | (with_reducible refine Kd.C_drewN ?_ _) | (with_reducible refine Kd.C_drew ?_))); (case side2 => exact (Kd.R_reads' HO242.out).2.1); (case side3 => repeat (first | exact (Kd.R_reads' HO245.out).2.2 | (with_reducible refine Kd.C_alloc ?_ _) | (with_reducible refine Kd.C_drewN ?_ _) | (with_reducible refine Kd.C_drew ?_))); (case side4 => exact (Kd.R_reads' HO245.out).2.1); rintro e w25 ⟨v249, rfl, ho0, hb⟩; refine ⟨_, rfl, ?_⟩; have n0_ := Aside0.mk (Kd.R_elder' (by (with_reducible repeat (first | apply Kd.R_alloc | apply Kd.R_drewN | apply Kd.R_drew)); exact HO242.out) (Kd.R_base ho0) hb); have n1_ := Aside0.mk (Kd.R_elder' (by (with_reducible repeat (first | apply Kd.R_alloc | apply Kd.R_drewN | apply Kd.R_drew)); exact HO245.out) (Kd.R_base ho0) hb); have n2_ := Aside0.mk (Kd.R_lower (Kd.R_new' (Kd.R_new' ho0 (Kd.R_lt (by (with_reducible repeat (first | apply Kd.R_alloc | apply Kd.R_drewN | apply Kd.R_drew)); exact HO242.out))) (Kd.R_lt (by (with_reducible repeat (first | apply Kd.R_alloc | apply Kd.R_drewN | apply Kd.R_drew)); exact HO245.out))) (below_size (by repeat (first | (with_reducible first | exact HB.out | apply below_alloc | apply pw_below_drewN | apply below_drew1 | refine below_set ?_ GE236.out) | exact HB.out)))); have n3_ := Aside0.mk (blk_below (g := gb236) (o := .cells #[.int .i64 a0_0, .int .i64 a0_1, .slice A0_2 l0_2.length c0_2] 24 (0, 0)) (by (with_reducible repeat (first | refine blk_drewN ?_ _ | refine blk_drew ?_ | refine blk_alloc ?_ _)); exact BK236.out) hb); have n4_ := Aside0.mk (below_step (by repeat (first | (with_reducible first | exact HB.out | apply below_alloc | apply pw_below_drewN | apply below_drew1 | refine below_set ?_ GE236.out) | exact HB.out)) hb); clear HO242; clear HO245; clear BK236; clear HB; have HO242 := n0_; have HO245 := n1_; have HO250 := n2_; have BK236 := n3_; have HB := n4_; clear n0_ n1_ n2_ n3_ n4_; (try clear hb); (try clear hb2); (try clear hk); (try clear hi); (try clear ho0)) | ((with_reducible refine gate_dst (N := 6) rfl ?_); refine box_event ?hg (N := 6) ?hd (cs := #[.int .i64 0, .int .i64 0, .slice none 0 0]) (t := 28) ?hr ?_; (case hd => rfl); (case hg => rfl); (case hr => first | (go_simp; done) | (go_simp; rfl)); intro gb252 hg w26 hbox hb; have n0_ := Aside0.mk (Kd.R_below (by (with_reducible repeat (first | apply Kd.R_alloc | apply Kd.R_drewN | apply Kd.R_drew)); exact HO242.out) hb); have n1_ := Aside0.mk (Kd.R_below (by (with_reducible repeat (first | apply Kd.R_alloc | apply Kd.R_drewN | apply Kd.R_drew)); exact HO245.out) hb); have n2_ := Aside0.mk (Kd.R_below (by (with_reducible repeat (first | apply Kd.R_alloc | apply Kd.R_drewN | apply Kd.R_drew)); exact HO250.out) hb); have n3_ := Aside0.mk (blk_below (g := gb236) (o := .cells #[.int .i64 a0_0, .int .i64 a0_1, .slice A0_2 l0_2.length c0_2] 24 (0, 0)) (by (with_reducible repeat (first | refine blk_drewN ?_ _ | refine blk_drew ?_ | refine blk_alloc ?_ _)); exact BK236.out) hb); have n4_ := Aside0.mk (below_step (by repeat (first | (with_reducible first | exact HB.out | apply below_alloc | apply pw_below_drewN | apply below_drew1 | refine below_set ?_ GE236.out) | exact HB.out)) hb); have n5_ := Aside0.mk (hbox); have n6_ := Aside0.mk ((by rw [hg]; exact (below_size (by repeat (first | (with_reducible first | exact HB.out | apply below_alloc | apply pw_below_drewN | apply below_drew1 | refine below_set ?_ GE236.out) | exact HB.out))) : w.heap.size ≤ gb252)); have n7_ := Aside0.mk ((by rw [hg]; exact (below_size (by repeat (first | (with_reducible first | exact HB.out | apply below_alloc | apply pw_below_drewN | apply below_drew1 | refine below_set ?_ GE236.out) | exact HB.out))) : w.heap.size ≤ gb252)); have n8_ := Aside0.mk ((by rw [hg]; exact Nat.ne_of_lt (blk_lt (g := gb236) (o := .cells #[.int .i64 a0_0, .int .i64 a0_1, .slice A0_2 l0_2.length c0_2] 24 (0, 0)) (by (with_reducible repeat (first | refine blk_drewN ?_ _ | refine blk_drew ?_ | refine blk_alloc ?_ _)); exact BK236.out)) : gb236 ≠ gb252)); have n9_ := Aside0.mk ((by rw [hg]; exact Nat.ne_of_gt (blk_lt (g := gb236) (o := .cells #[.int .i64 a0_0, .int .i64 a0_1, .slice A0_2 l0_2.length c0_2] 24 (0, 0)) (by (with_reducible repeat (first | refine blk_drewN ?_ _ | refine blk_drew ?_ | refine blk_alloc ?_ _)); exact BK236.out)) : gb252 ≠ gb236)); clear HO242; clear HO245; clear HO250; clear BK236; clear HB; have HO242 := n0_; have HO245 := n1_; have HO250 := n2_; have BK236 := n3_; have HB := n4_; have BK252 := n5_; have GW252 := n6_; have GE252 := n7_; have NB236_252 := n8_; have NB252_236 := n9_; clear n0_ n1_ n2_ n3_ n4_ n5_ n6_ n7_ n8_ n9_; clear hb hbox hg; have hnb27 := NB252_236.out; have hnc27 := NB236_252.out; have hcz28_0 : w26.cell? ⟨gb252, 0, none⟩ = some (.int .i64 0) := (blk_cell BK252.out 0).trans rfl; have hcz28_1 : w26.cell? ⟨gb252, 1, none⟩ = some (.int .i64 0) := (blk_cell BK252.out 1).trans rfl; have hcz28_2 : w26.cell? ⟨gb252, 2, none⟩ = some (.slice none 0 0) := (blk_cell BK252.out 2).trans rfl; have hfz28_0 := blk_frozen BK252.out 0; have hfz28_1 := blk_frozen BK252.out 1; have hfz28_2 := blk_frozen BK252.out 2; obtain ⟨Ao29, co29, eo29⟩ := Kd.R_slice HO250.out; subst eo29; have hcz30_0 : w26.cell? ⟨gb236, 0, none⟩ = some (.int .i64 a0_0) := (blk_cell BK236.out 0).trans rfl; have hcz30_1 : w26.cell? ⟨gb236, 1, none⟩ = some (.int .i64 a0_1) := (blk_cell BK236.out 1).trans rfl; have hcz30_2 : w26.cell? ⟨gb236, 2, none⟩ = some (.slice A0_2 l0_2.length c0_2) := (blk_cell BK236.out 2).trans rfl; have hfz30_0 := blk_frozen BK236.out 0; have hfz30_1 := blk_frozen BK236.out 1; have hfz30_2 := blk_frozen BK236.out 2) | ((with_reducible refine gate_callee (f := 14) rfl ?_); refine goesL_ (some 34) rfl rfl Try.func14 (by kernel_rfl) rfl #[.agg #[.int .i64 a0_0, .int .i64 a0_1, .slice A0_2 l0_2.length c0_2]] rfl (by (try simp only [List.map_toArray, List.map_cons, List.map_nil]); first | done | rfl | (simp only [List.length_drop, List.length_take]; rfl)) ?_; (with_reducible refine (laws_toTable.calls k a0_0 a0_1 _ _ l0_2 t253 t254 t255 _ ?side1 ?side2 A13.out).mono ?_); (case side1 => exact Kd.C_below HR0_2.out (by repeat (first | (with_reducible first | exact HB.out | apply below_alloc | apply pw_below_drewN | apply below_drew1 | refine below_set ?_ GE236.out | refine below_set ?_ GE252.out) | exact HB.out))); (case side2 => exact HC0_2.out); rintro e w31 ⟨v256, rfl, ho0, hb⟩; refine ⟨_, rfl, ?_⟩; have n0_ := Aside0.mk (Kd.R_elder' (by (with_reducible repeat (first | apply Kd.R_alloc | apply Kd.R_drewN | apply Kd.R_drew)); exact (Kd.R_mono (Kd.R_far (p := ⟨gb252, 2, none⟩) (Kd.R_far (p := ⟨gb252, 1, none⟩) (Kd.R_far (p := ⟨gb252, 0, none⟩) (Kd.R_types HO242.out BK252.out (by decide)) (fun _ hk => hk.2) (.int .i64 t246)) (fun _ hk => hk.2) (.int .i64 t247)) (fun _ hk => hk.2) (.slice Ao29 t248.length co29)) (fun _ h_ => h_.1))) (Kd.R_base ho0) hb); have n1_ := Aside0.mk (Kd.R_elder' (by (with_reducible repeat (first | apply Kd.R_alloc | apply Kd.R_drewN | apply Kd.R_drew)); exact (Kd.R_mono (Kd.R_far (p := ⟨gb252, 2, none⟩) (Kd.R_far (p := ⟨gb252, 1, none⟩) (Kd.R_far (p := ⟨gb252, 0, none⟩) (Kd.R_types HO245.out BK252.out (by decide)) (fun _ hk => hk.2) (.int .i64 t246)) (fun _ hk => hk.2) (.int .i64 t247)) (fun _ hk => hk.2) (.slice Ao29 t248.length co29)) (fun _ h_ => h_.1))) (Kd.R_base ho0) hb); have n2_ := Aside0.mk (Kd.R_elder' (by (with_reducible repeat (first | apply Kd.R_alloc | apply Kd.R_drewN | apply Kd.R_drew)); exact (Kd.R_mono (Kd.R_far (p := ⟨gb252, 2, none⟩) (Kd.R_far (p := ⟨gb252, 1, none⟩) (Kd.R_far (p := ⟨gb252, 0, none⟩) (Kd.R_types HO250.out BK252.out (by decide)) (fun _ hk => hk.2) (.int .i64 t246)) (fun _ hk => hk.2) (.int .i64 t247)) (fun _ hk => hk.2) (.slice Ao29 t248.length co29)) (fun _ h_ => h_.1))) (Kd.R_base ho0) hb); have n3_ := Aside0.mk (Kd.R_lower (Kd.R_new' (Kd.R_new' (Kd.R_new' ho0 (Kd.R_lt (by (with_reducible repeat (first | apply Kd.R_alloc | apply Kd.R_drewN | apply Kd.R_drew)); exact (Kd.R_mono (Kd.R_far (p := ⟨gb252, 2, none⟩) (Kd.R_far (p := ⟨gb252, 1, none⟩) (Kd.R_far (p := ⟨gb252, 0, none⟩) (Kd.R_types HO242.out BK252.out (by decide)) (fun _ hk => hk.2) (.int .i64 t246)) (fun _ hk => hk.2) (.int .i64 t247)) (fun _ hk => hk.2) (.slice Ao29 t248.length co29)) (fun _ h_ => h_.1))))) (Kd.R_lt (by (with_reducible repeat (first | apply Kd.R_alloc | apply Kd.R_drewN | apply Kd.R_drew)); exact (Kd.R_mono (Kd.R_far (p := ⟨gb252, 2, none⟩) (Kd.R_far (p := ⟨gb252, 1, none⟩) (Kd.R_far (p := ⟨gb252, 0, none⟩) (Kd.R_types HO245.out BK252.out (by decide)) (fun _ hk => hk.2) (.int .i64 t246)) (fun _ hk => hk.2) (.int .i64 t247)) (fun _ hk => hk.2) (.slice Ao29 t248.length co29)) (fun _ h_ => h_.1))))) (Kd.R_lt (by (with_reducible repeat (first | apply Kd.R_alloc | apply Kd.R_drewN | apply Kd.R_drew)); exact (Kd.R_mono (Kd.R_far (p := ⟨gb252, 2, none⟩) (Kd.R_far (p := ⟨gb252, 1, none⟩) (Kd.R_far (p := ⟨gb252, 0, none⟩) (Kd.R_types HO250.out BK252.out (by decide)) (fun _ hk => hk.2) (.int .i64 t246)) (fun _ hk => hk.2) (.int .i64 t247)) (fun _ hk => hk.2) (.slice Ao29 t248.length co29)) (fun _ h_ => h_.1))))) (below_size (by repeat (first | (with_reducible first | exact HB.out | apply below_alloc | apply pw_below_drewN | apply below_drew1 | refine below_set ?_ GE236.out | refine below_set ?_ GE252.out) | exact HB.out)))); have n4_ := Aside0.mk (blk_below (g := gb236) (o := .cells #[.int .i64 a0_0, .int .i64 a0_1, .slice A0_2 l0_2.length c0_2] 24 (0, 0)) (by (with_reducible repeat (first | refine blk_drewN ?_ _ | refine blk_drew ?_ | refine blk_alloc ?_ _)); refine blk_far ?_ NB236_252.out _; (with_reducible repeat (first | refine blk_drewN ?_ _ | refine blk_drew ?_ | refine blk_alloc ?_ _)); refine blk_far ?_ NB236_252.out _; (with_reducible repeat (first | refine blk_drewN ?_ _ | refine blk_drew ?_ | refine blk_alloc ?_ _)); refine blk_far ?_ NB236_252.out _; (with_reducible repeat (first | refine blk_drewN ?_ _ | refine blk_drew ?_ | refine blk_alloc ?_ _)); exact BK236.out) hb); have n5_ := Aside0.mk (blk_below (g := gb252) (o := .cells #[.int .i64 t246, .int .i64 t247, .slice Ao29 t248.length co29] 28 (0, 0)) (by (with_reducible repeat (first | refine blk_drewN ?_ _ | refine blk_drew ?_ | refine blk_alloc ?_ _)); refine blk_put (cs := #[.int .i64 t246, .int .i64 t247, .slice none 0 0]) ?_ 2 _ rfl; (with_reducible repeat (first | refine blk_drewN ?_ _ | refine blk_drew ?_ | refine blk_alloc ?_ _)); refine blk_put (cs := #[.int .i64 t246, .int .i64 0, .slice none 0 0]) ?_ 1 _ rfl; (with_reducible repeat (first | refine blk_drewN ?_ _ | refine blk_drew ?_ | refine blk_alloc ?_ _)); refine blk_put (cs := #[.int .i64 0, .int .i64 0, .slice none 0 0]) ?_ 0 _ rfl; (with_reducible repeat (first | refine blk_drewN ?_ _ | refine blk_drew ?_ | refine blk_alloc ?_ _)); exact BK252.out) hb); have n6_ := Aside0.mk (below_step (by repeat (first | (with_reducible first | exact HB.out | apply below_alloc | apply pw_below_drewN | apply below_drew1 | refine below_set ?_ GE236.out | refine below_set ?_ GE252.out) | exact HB.out)) hb); clear HO242; clear HO245; clear HO250; clear BK236; clear BK252; clear HB; have HO242 := n0_; have HO245 := n1_; have HO250 := n2_; have HO257 := n3_; have BK236 := n4_; have BK252 := n5_; have HB := n6_; clear n0_ n1_ n2_ n3_ n4_ n5_ n6_; (try clear hb); (try clear hb2); (try clear hk); (try clear hi); (try clear ho0)) | ((with_reducible refine gate_dst (N := 8) rfl ?_); refine box_event ?hg (N := 8) ?hd (cs := #[.int .i64 0, .int .i64 0, .slice none 0 0]) (t := 28) ?hr ?_; (case hd => rfl); (case hg => rfl); (case hr => first | (go_simp; done) | (go_simp; rfl)); intro gb258 hg w32 hbox hb; have n0_ := Aside0.mk (Kd.R_below (by (with_reducible repeat (first | apply Kd.R_alloc | apply Kd.R_drewN | apply Kd.R_drew)); exact HO242.out) hb); have n1_ := Aside0.mk (Kd.R_below (by (with_reducible repeat (first | apply Kd.R_alloc | apply Kd.R_drewN | apply Kd.R_drew)); exact HO245.out) hb); have n2_ := Aside0.mk (Kd.R_below (by (with_reducible repeat (first | apply Kd.R_alloc | apply Kd.R_drewN | apply Kd.R_drew)); exact HO250.out) hb); have n3_ := Aside0.mk (Kd.R_below (by (with_reducible repeat (first | apply Kd.R_alloc | apply Kd.R_drewN | apply Kd.R_drew)); exact HO257.out) hb); have n4_ := Aside0.mk (blk_below (g := gb236) (o := .cells #[.int .i64 a0_0, .int .i64 a0_1, .slice A0_2 l0_2.length c0_2] 24 (0, 0)) (by (with_reducible repeat (first | refine blk_drewN ?_ _ | refine blk_drew ?_ | refine blk_alloc ?_ _)); exact BK236.out) hb); have n5_ := Aside0.mk (blk_below (g := gb252) (o := .cells #[.int .i64 t246, .int .i64 t247, .slice Ao29 t248.length co29] 28 (0, 0)) (by (with_reducible repeat (first | refine blk_drewN ?_ _ | refine blk_drew ?_ | refine blk_alloc ?_ _)); exact BK252.out) hb); have n6_ := Aside0.mk (below_step (by repeat (first | (with_reducible first | exact HB.out | apply below_alloc | apply pw_below_drewN | apply below_drew1 | refine below_set ?_ GE236.out | refine below_set ?_ GE252.out) | exact HB.out)) hb); have n7_ := Aside0.mk (hbox); have n8_ := Aside0.mk ((by rw [hg]; exact (below_size (by repeat (first | (with_reducible first | exact HB.out | apply below_alloc | apply pw_below_drewN | apply below_drew1 | refine below_set ?_ GE236.out | refine below_set ?_ GE252.out) | exact HB.out))) : w.heap.size ≤ gb258)); have n9_ := Aside0.mk ((by rw [hg]; exact (below_size (by repeat (first | (with_reducible first | exact HB.out | apply below_alloc | apply pw_below_drewN | apply below_drew1 | refine below_set ?_ GE236.out | refine below_set ?_ GE252.out) | exact HB.out))) : w.heap.size ≤ gb258)); have n10_ := Aside0.mk ((by rw [hg]; exact Nat.ne_of_lt (blk_lt (g := gb236) (o := .cells #[.int .i64 a0_0, .int .i64 a0_1, .slice A0_2 l0_2.length c0_2] 24 (0, 0)) (by (with_reducible repeat (first | refine blk_drewN ?_ _ | refine blk_drew ?_ | refine blk_alloc ?_ _)); exact BK236.out)) : gb236 ≠ gb258)); have n11_ := Aside0.mk ((by rw [hg]; exact Nat.ne_of_gt (blk_lt (g := gb236) (o := .cells #[.int .i64 a0_0, .int .i64 a0_1, .slice A0_2 l0_2.length c0_2] 24 (0, 0)) (by (with_reducible repeat (first | refine blk_drewN ?_ _ | refine blk_drew ?_ | refine blk_alloc ?_ _)); exact BK236.out)) : gb258 ≠ gb236)); have n12_ := Aside0.mk ((by rw [hg]; exact Nat.ne_of_lt (blk_lt (g := gb252) (o := .cells #[.int .i64 t246, .int .i64 t247, .slice Ao29 t248.length co29] 28 (0, 0)) (by (with_reducible repeat (first | refine blk_drewN ?_ _ | refine blk_drew ?_ | refine blk_alloc ?_ _)); exact BK252.out)) : gb252 ≠ gb258)); have n13_ := Aside0.mk ((by rw [hg]; exact Nat.ne_of_gt (blk_lt (g := gb252) (o := .cells #[.int .i64 t246, .int .i64 t247, .slice Ao29 t248.length co29] 28 (0, 0)) (by (with_reducible repeat (first | refine blk_drewN ?_ _ | refine blk_drew ?_ | refine blk_alloc ?_ _)); exact BK252.out)) : gb258 ≠ gb252)); clear HO242; clear HO245; clear HO250; clear HO257; clear BK236; clear BK252; clear HB; have HO242 := n0_; have HO245 := n1_; have HO250 := n2_; have HO257 := n3_; have BK236 := n4_; have BK252 := n5_; have HB := n6_; have BK258 := n7_; have GW258 := n8_; have GE258 := n9_; have NB236_258 := n10_; have NB258_236 := n11_; have NB252_258 := n12_; have NB258_252 := n13_; clear n0_ n1_ n2_ n3_ n4_ n5_ n6_ n7_ n8_ n9_ n10_ n11_ n12_ n13_; clear hb hbox hg; have hnb33 := NB258_236.out; have hnc33 := NB236_258.out; have hnb34 := NB258_252.out; have hnc34 := NB252_258.out; have hcz35_0 : w32.cell? ⟨gb258, 0, none⟩ = some (.int .i64 0) := (blk_cell BK258.out 0).trans rfl; have hcz35_1 : w32.cell? ⟨gb258, 1, none⟩ = some (.int .i64 0) := (blk_cell BK258.out 1).trans rfl; have hcz35_2 : w32.cell? ⟨gb258, 2, none⟩ = some (.slice none 0 0) := (blk_cell BK258.out 2).trans rfl; have hfz35_0 := blk_frozen BK258.out 0; have hfz35_1 := blk_frozen BK258.out 1; have hfz35_2 := blk_frozen BK258.out 2; obtain ⟨Ao36, co36, eo36⟩ := Kd.R_slice HO257.out; subst eo36) | ((with_reducible refine gate_callee (f := 38) rfl ?_); refine goesL_ (some 36) rfl rfl Try.func38 (by kernel_rfl) rfl #[.slice A1 l1.length c1] rfl (by (try simp only [List.map_toArray, List.map_cons, List.map_nil]); first | done | rfl | (simp only [List.length_drop, List.length_take]; rfl)) ?_; (with_reducible refine (laws_toIntS.calls k _ _ l1 t259 _ ?side1 ?side2 A14.out).mono ?_); (case side1 => exact Kd.C_below HR1.out (by repeat (first | (with_reducible first | exact HB.out | apply below_alloc | apply pw_below_drewN | apply below_drew1 | refine below_set ?_ GE236.out | refine below_set ?_ GE252.out | refine below_set ?_ GE258.out) | exact HB.out))); (case side2 => exact HC1.out); rintro e w37 ⟨v260, rfl, ho0, hb⟩; refine ⟨_, rfl, ?_⟩; have n0_ := Aside0.mk (Kd.R_elder' (by (with_reducible repeat (first | apply Kd.R_alloc | apply Kd.R_drewN | apply Kd.R_drew)); exact (Kd.R_mono (Kd.R_far (p := ⟨gb258, 2, none⟩) (Kd.R_far (p := ⟨gb258, 1, none⟩) (Kd.R_far (p := ⟨gb258, 0, none⟩) (Kd.R_types HO242.out BK258.out (by decide)) (fun _ hk => hk.2) (.int .i64 t253)) (fun _ hk => hk.2) (.int .i64 t254)) (fun _ hk => hk.2) (.slice Ao36 t255.length co36)) (fun _ h_ => h_.1))) (Kd.R_base ho0) hb); have n1_ := Aside0.mk (Kd.R_elder' (by (with_reducible repeat (first | apply Kd.R_alloc | apply Kd.R_drewN | apply Kd.R_drew)); exact (Kd.R_mono (Kd.R_far (p := ⟨gb258, 2, none⟩) (Kd.R_far (p := ⟨gb258, 1, none⟩) (Kd.R_far (p := ⟨gb258, 0, none⟩) (Kd.R_types HO245.out BK258.out (by decide)) (fun _ hk => hk.2) (.int .i64 t253)) (fun _ hk => hk.2) (.int .i64 t254)) (fun _ hk => hk.2) (.slice Ao36 t255.length co36)) (fun _ h_ => h_.1))) (Kd.R_base ho0) hb); have n2_ := Aside0.mk (Kd.R_elder' (by (with_reducible repeat (first | apply Kd.R_alloc | apply Kd.R_drewN | apply Kd.R_drew)); exact (Kd.R_mono (Kd.R_far (p := ⟨gb258, 2, none⟩) (Kd.R_far (p := ⟨gb258, 1, none⟩) (Kd.R_far (p := ⟨gb258, 0, none⟩) (Kd.R_types HO250.out BK258.out (by decide)) (fun _ hk => hk.2) (.int .i64 t253)) (fun _ hk => hk.2) (.int .i64 t254)) (fun _ hk => hk.2) (.slice Ao36 t255.length co36)) (fun _ h_ => h_.1))) (Kd.R_base ho0) hb); have n3_ := Aside0.mk (Kd.R_elder' (by (with_reducible repeat (first | apply Kd.R_alloc | apply Kd.R_drewN | apply Kd.R_drew)); exact (Kd.R_mono (Kd.R_far (p := ⟨gb258, 2, none⟩) (Kd.R_far (p := ⟨gb258, 1, none⟩) (Kd.R_far (p := ⟨gb258, 0, none⟩) (Kd.R_types HO257.out BK258.out (by decide)) (fun _ hk => hk.2) (.int .i64 t253)) (fun _ hk => hk.2) (.int .i64 t254)) (fun _ hk => hk.2) (.slice Ao36 t255.length co36)) (fun _ h_ => h_.1))) (Kd.R_base ho0) hb); have n4_ := Aside0.mk (Kd.R_lower (Kd.R_new' (Kd.R_new' (Kd.R_new' (Kd.R_new' ho0 (Kd.R_lt (by (with_reducible repeat (first | apply Kd.R_alloc | apply Kd.R_drewN | apply Kd.R_drew)); exact (Kd.R_mono (Kd.R_far (p := ⟨gb258, 2, none⟩) (Kd.R_far (p := ⟨gb258, 1, none⟩) (Kd.R_far (p := ⟨gb258, 0, none⟩) (Kd.R_types HO242.out BK258.out (by decide)) (fun _ hk => hk.2) (.int .i64 t253)) (fun _ hk => hk.2) (.int .i64 t254)) (fun _ hk => hk.2) (.slice Ao36 t255.length co36)) (fun _ h_ => h_.1))))) (Kd.R_lt (by (with_reducible repeat (first | apply Kd.R_alloc | apply Kd.R_drewN | apply Kd.R_drew)); exact (Kd.R_mono (Kd.R_far (p := ⟨gb258, 2, none⟩) (Kd.R_far (p := ⟨gb258, 1, none⟩) (Kd.R_far (p := ⟨gb258, 0, none⟩) (Kd.R_types HO245.out BK258.out (by decide)) (fun _ hk => hk.2) (.int .i64 t253)) (fun _ hk => hk.2) (.int .i64 t254)) (fun _ hk => hk.2) (.slice Ao36 t255.length co36)) (fun _ h_ => h_.1))))) (Kd.R_lt (by (with_reducible repeat (first | apply Kd.R_alloc | apply Kd.R_drewN | apply Kd.R_drew)); exact (Kd.R_mono (Kd.R_far (p := ⟨gb258, 2, none⟩) (Kd.R_far (p := ⟨gb258, 1, none⟩) (Kd.R_far (p := ⟨gb258, 0, none⟩) (Kd.R_types HO250.out BK258.out (by decide)) (fun _ hk => hk.2) (.int .i64 t253)) (fun _ hk => hk.2) (.int .i64 t254)) (fun _ hk => hk.2) (.slice Ao36 t255.length co36)) (fun _ h_ => h_.1))))) (Kd.R_lt (by (with_reducible repeat (first | apply Kd.R_alloc | apply Kd.R_drewN | apply Kd.R_drew)); exact (Kd.R_mono (Kd.R_far (p := ⟨gb258, 2, none⟩) (Kd.R_far (p := ⟨gb258, 1, none⟩) (Kd.R_far (p := ⟨gb258, 0, none⟩) (Kd.R_types HO257.out BK258.out (by decide)) (fun _ hk => hk.2) (.int .i64 t253)) (fun _ hk => hk.2) (.int .i64 t254)) (fun _ hk => hk.2) (.slice Ao36 t255.length co36)) (fun _ h_ => h_.1))))) (below_size (by repeat (first | (with_reducible first | exact HB.out | apply below_alloc | apply pw_below_drewN | apply below_drew1 | refine below_set ?_ GE236.out | refine below_set ?_ GE252.out | refine below_set ?_ GE258.out) | exact HB.out)))); have n5_ := Aside0.mk (blk_below (g := gb236) (o := .cells #[.int .i64 a0_0, .int .i64 a0_1, .slice A0_2 l0_2.length c0_2] 24 (0, 0)) (by (with_reducible repeat (first | refine blk_drewN ?_ _ | refine blk_drew ?_ | refine blk_alloc ?_ _)); refine blk_far ?_ NB236_258.out _; (with_reducible repeat (first | refine blk_drewN ?_ _ | refine blk_drew ?_ | refine blk_alloc ?_ _)); refine blk_far ?_ NB236_258.out _; (with_reducible repeat (first | refine blk_drewN ?_ _ | refine blk_drew ?_ | refine blk_alloc ?_ _)); refine blk_far ?_ NB236_258.out _; (with_reducible repeat (first | refine blk_drewN ?_ _ | refine blk_drew ?_ | refine blk_alloc ?_ _)); exact BK236.out) hb); have n6_ := Aside0.mk (blk_below (g := gb252) (o := .cells #[.int .i64 t246, .int .i64 t247, .slice Ao29 t248.length co29] 28 (0, 0)) (by (with_reducible repeat (first | refine blk_drewN ?_ _ | refine blk_drew ?_ | refine blk_alloc ?_ _)); refine blk_far ?_ NB252_258.out _; (with_reducible repeat (first | refine blk_drewN ?_ _ | refine blk_drew ?_ | refine blk_alloc ?_ _)); refine blk_far ?_ NB252_258.out _; (with_reducible repeat (first | refine blk_drewN ?_ _ | refine blk_drew ?_ | refine blk_alloc ?_ _)); refine blk_far ?_ NB252_258.out _; (with_reducible repeat (first | refine blk_drewN ?_ _ | refine blk_drew ?_ | refine blk_alloc ?_ _)); exact BK252.out) hb); have n7_ := Aside0.mk (blk_below (g := gb258) (o := .cells #[.int .i64 t253, .int .i64 t254, .slice Ao36 t255.length co36] 28 (0, 0)) (by (with_reducible repeat (first | refine blk_drewN ?_ _ | refine blk_drew ?_ | refine blk_alloc ?_ _)); refine blk_put (cs := #[.int .i64 t253, .int .i64 t254, .slice none 0 0]) ?_ 2 _ rfl; (with_reducible repeat (first | refine blk_drewN ?_ _ | refine blk_drew ?_ | refine blk_alloc ?_ _)); refine blk_put (cs := #[.int .i64 t253, .int .i64 0, .slice none 0 0]) ?_ 1 _ rfl; (with_reducible repeat (first | refine blk_drewN ?_ _ | refine blk_drew ?_ | refine blk_alloc ?_ _)); refine blk_put (cs := #[.int .i64 0, .int .i64 0, .slice none 0 0]) ?_ 0 _ rfl; (with_reducible repeat (first | refine blk_drewN ?_ _ | refine blk_drew ?_ | refine blk_alloc ?_ _)); exact BK258.out) hb); have n8_ := Aside0.mk (below_step (by repeat (first | (with_reducible first | exact HB.out | apply below_alloc | apply pw_below_drewN | apply below_drew1 | refine below_set ?_ GE236.out | refine below_set ?_ GE252.out | refine below_set ?_ GE258.out) | exact HB.out)) hb); clear HO242; clear HO245; clear HO250; clear HO257; clear BK236; clear BK252; clear BK258; clear HB; have HO242 := n0_; have HO245 := n1_; have HO250 := n2_; have HO257 := n3_; have HO261 := n4_; have BK236 := n5_; have BK252 := n6_; have BK258 := n7_; have HB := n8_; clear n0_ n1_ n2_ n3_ n4_ n5_ n6_ n7_ n8_; (try clear hb); (try clear hb2); (try clear hk); (try clear hi); (try clear ho0); have hcz38_0 : w37.cell? ⟨gb258, 0, none⟩ = some (.int .i64 t253) := (blk_cell BK258.out 0).trans rfl; have hcz38_1 : w37.cell? ⟨gb258, 1, none⟩ = some (.int .i64 t254) := (blk_cell BK258.out 1).trans rfl; have hcz38_2 : w37.cell? ⟨gb258, 2, none⟩ = some (.slice Ao36 t255.length co36) := (blk_cell BK258.out 2).trans rfl; have hfz38_0 := blk_frozen BK258.out 0; have hfz38_1 := blk_frozen BK258.out 1; have hfz38_2 := blk_frozen BK258.out 2; obtain ⟨Ao39, co39, eo39⟩ := Kd.R_slice HO261.out; subst eo39) | ((with_reducible refine gate_callee (f := 41) rfl ?_); refine goesL_ (some 40) rfl rfl Try.func41 (by kernel_rfl) rfl #[.agg #[.int .i64 t253, .int .i64 t254, .slice Ao36 t255.length co36], .slice Ao39 t259.length co39] rfl (by (try simp only [List.map_toArray, List.map_cons, List.map_nil]); first | done | rfl | (simp only [List.length_drop, List.length_take]; rfl)) ?_; (with_reducible refine (impl_CoverOf.calls k t253 t254 _ _ t255 _ _ t259 t262 t263 t264 t267 _ ?side1 ?side2 ?side3 ?side4 A15.out).mono ?_); (case side1 => repeat (first | exact (Kd.R_reads' HO257.out).2.2 | (with_reducible refine Kd.C_alloc ?_ _) | (with_reducible refine Kd.C_drewN ?_ _) | (with_reducible refine Kd.C_drew ?_))); (case side2 => exact (Kd.R_reads' HO257.out).2.1); (case side3 => repeat (first | exact (Kd.R_reads' HO261.out).2.2 | (with_reducible refine Kd.C_alloc ?_ _) | (with_reducible refine Kd.C_drewN ?_ _) | (with_reducible refine Kd.C_drew ?_))); (case side4 => exact (Kd.R_reads' HO261.out).2.1); rintro e w40 ⟨v265, rfl, ho0, hb⟩; refine ⟨_, rfl, ?_⟩; have n0_ := Aside0.mk (Kd.R_elder' (by (with_reducible repeat (first | apply Kd.R_alloc | apply Kd.R_drewN | apply Kd.R_drew)); exact HO242.out) (Kd.R_base ho0) hb); have n1_ := Aside0.mk (Kd.R_elder' (by (with_reducible repeat (first | apply Kd.R_alloc | apply Kd.R_drewN | apply Kd.R_drew)); exact HO245.out) (Kd.R_base ho0) hb); have n2_ := Aside0.mk (Kd.R_elder' (by (with_reducible repeat (first | apply Kd.R_alloc | apply Kd.R_drewN | apply Kd.R_drew)); exact HO250.out) (Kd.R_base ho0) hb); have n3_ := Aside0.mk (Kd.R_elder' (by (with_reducible repeat (first | apply Kd.R_alloc | apply Kd.R_drewN | apply Kd.R_drew)); exact HO257.out) (Kd.R_base ho0) hb); have n4_ := Aside0.mk (Kd.R_elder' (by (with_reducible repeat (first | apply Kd.R_alloc | apply Kd.R_drewN | apply Kd.R_drew)); exact HO261.out) (Kd.R_base ho0) hb); have n5_ := Aside0.mk (Kd.R_lower (Kd.R_new' (Kd.R_new' (Kd.R_new' (Kd.R_new' (Kd.R_new' ho0 (Kd.R_lt (by (with_reducible repeat (first | apply Kd.R_alloc | apply Kd.R_drewN | apply Kd.R_drew)); exact HO242.out))) (Kd.R_lt (by (with_reducible repeat (first | apply Kd.R_alloc | apply Kd.R_drewN | apply Kd.R_drew)); exact HO245.out))) (Kd.R_lt (by (with_reducible repeat (first | apply Kd.R_alloc | apply Kd.R_drewN | apply Kd.R_drew)); exact HO250.out))) (Kd.R_lt (by (with_reducible repeat (first | apply Kd.R_alloc | apply Kd.R_drewN | apply Kd.R_drew)); exact HO257.out))) (Kd.R_lt (by (with_reducible repeat (first | apply Kd.R_alloc | apply Kd.R_drewN | apply Kd.R_drew)); exact HO261.out))) (below_size (by repeat (first | (with_reducible first | exact HB.out | apply below_alloc | apply pw_below_drewN | apply below_drew1 | refine below_set ?_ GE236.out | refine below_set ?_ GE252.out | refine below_set ?_ GE258.out) | exact HB.out)))); have n6_ := Aside0.mk (blk_below (g := gb236) (o := .cells #[.int .i64 a0_0, .int .i64 a0_1, .slice A0_2 l0_2.length c0_2] 24 (0, 0)) (by (with_reducible repeat (first | refine blk_drewN ?_ _ | refine blk_drew ?_ | refine blk_alloc ?_ _)); exact BK236.out) hb); have n7_ := Aside0.mk (blk_below (g := gb252) (o := .cells #[.int .i64 t246, .int .i64 t247, .slice Ao29 t248.length co29] 28 (0, 0)) (by (with_reducible repeat (first | refine blk_drewN ?_ _ | refine blk_drew ?_ | refine blk_alloc ?_ _)); exact BK252.out) hb); have n8_ := Aside0.mk (blk_below (g := gb258) (o := .cells #[.int .i64 t253, .int .i64 t254, .slice Ao36 t255.length co36] 28 (0, 0)) (by (with_reducible repeat (first | refine blk_drewN ?_ _ | refine blk_drew ?_ | refine blk_alloc ?_ _)); exact BK258.out) hb); have n9_ := Aside0.mk (below_step (by repeat (first | (with_reducible first | exact HB.out | apply below_alloc | apply pw_below_drewN | apply below_drew1 | refine below_set ?_ GE236.out | refine below_set ?_ GE252.out | refine below_set ?_ GE258.out) | exact HB.out)) hb); clear HO242; clear HO245; clear HO250; clear HO257; clear HO261; clear BK236; clear BK252; clear BK258; clear HB; have HO242 := n0_; have HO245 := n1_; have HO250 := n2_; have HO257 := n3_; have HO261 := n4_; have HO266 := n5_; have BK236 := n6_; have BK252 := n7_; have BK258 := n8_; have HB := n9_; clear n0_ n1_ n2_ n3_ n4_ n5_ n6_ n7_ n8_ n9_; (try clear hb); (try clear hb2); (try clear hk); (try clear hi); (try clear ho0)) | ((with_reducible refine gate_dst (N := 10) rfl ?_); refine box_event ?hg (N := 10) ?hd (cs := #[.int .i64 0, .int .i64 0, .slice none 0 0]) (t := 28) ?hr ?_; (case hd => rfl); (case hg => rfl); (case hr => first | (go_simp; done) | (go_simp; rfl)); intro gb268 hg w41 hbox hb; have n0_ := Aside0.mk (Kd.R_below (by (with_reducible repeat (first | apply Kd.R_alloc | apply Kd.R_drewN | apply Kd.R_drew)); exact HO242.out) hb); have n1_ := Aside0.mk (Kd.R_below (by (with_reducible repeat (first | apply Kd.R_alloc | apply Kd.R_drewN | apply Kd.R_drew)); exact HO245.out) hb); have n2_ := Aside0.mk (Kd.R_below (by (with_reducible repeat (first | apply Kd.R_alloc | apply Kd.R_drewN | apply Kd.R_drew)); exact HO250.out) hb); have n3_ := Aside0.mk (Kd.R_below (by (with_reducible repeat (first | apply Kd.R_alloc | apply Kd.R_drewN | apply Kd.R_drew)); exact HO257.out) hb); have n4_ := Aside0.mk (Kd.R_below (by (with_reducible repeat (first | apply Kd.R_alloc | apply Kd.R_drewN | apply Kd.R_drew)); exact HO261.out) hb); have n5_ := Aside0.mk (Kd.R_below (by (with_reducible repeat (first | apply Kd.R_alloc | apply Kd.R_drewN | apply Kd.R_drew)); exact HO266.out) hb); have n6_ := Aside0.mk (blk_below (g := gb236) (o := .cells #[.int .i64 a0_0, .int .i64 a0_1, .slice A0_2 l0_2.length c0_2] 24 (0, 0)) (by (with_reducible repeat (first | refine blk_drewN ?_ _ | refine blk_drew ?_ | refine blk_alloc ?_ _)); exact BK236.out) hb); have n7_ := Aside0.mk (blk_below (g := gb252) (o := .cells #[.int .i64 t246, .int .i64 t247, .slice Ao29 t248.length co29] 28 (0, 0)) (by (with_reducible repeat (first | refine blk_drewN ?_ _ | refine blk_drew ?_ | refine blk_alloc ?_ _)); exact BK252.out) hb); have n8_ := Aside0.mk (blk_below (g := gb258) (o := .cells #[.int .i64 t253, .int .i64 t254, .slice Ao36 t255.length co36] 28 (0, 0)) (by (with_reducible repeat (first | refine blk_drewN ?_ _ | refine blk_drew ?_ | refine blk_alloc ?_ _)); exact BK258.out) hb); have n9_ := Aside0.mk (below_step (by repeat (first | (with_reducible first | exact HB.out | apply below_alloc | apply pw_below_drewN | apply below_drew1 | refine below_set ?_ GE236.out | refine below_set ?_ GE252.out | refine below_set ?_ GE258.out) | exact HB.out)) hb); have n10_ := Aside0.mk (hbox); have n11_ := Aside0.mk ((by rw [hg]; exact (below_size (by repeat (first | (with_reducible first | exact HB.out | apply below_alloc | apply pw_below_drewN | apply below_drew1 | refine below_set ?_ GE236.out | refine below_set ?_ GE252.out | refine below_set ?_ GE258.out) | exact HB.out))) : w.heap.size ≤ gb268)); have n12_ := Aside0.mk ((by rw [hg]; exact (below_size (by repeat (first | (with_reducible first | exact HB.out | apply below_alloc | apply pw_below_drewN | apply below_drew1 | refine below_set ?_ GE236.out | refine below_set ?_ GE252.out | refine below_set ?_ GE258.out) | exact HB.out))) : w.heap.size ≤ gb268)); have n13_ := Aside0.mk ((by rw [hg]; exact Nat.ne_of_lt (blk_lt (g := gb236) (o := .cells #[.int .i64 a0_0, .int .i64 a0_1, .slice A0_2 l0_2.length c0_2] 24 (0, 0)) (by (with_reducible repeat (first | refine blk_drewN ?_ _ | refine blk_drew ?_ | refine blk_alloc ?_ _)); exact BK236.out)) : gb236 ≠ gb268)); have n14_ := Aside0.mk ((by rw [hg]; exact Nat.ne_of_gt (blk_lt (g := gb236) (o := .cells #[.int .i64 a0_0, .int .i64 a0_1, .slice A0_2 l0_2.length c0_2] 24 (0, 0)) (by (with_reducible repeat (first | refine blk_drewN ?_ _ | refine blk_drew ?_ | refine blk_alloc ?_ _)); exact BK236.out)) : gb268 ≠ gb236)); have n15_ := Aside0.mk ((by rw [hg]; exact Nat.ne_of_lt (blk_lt (g := gb252) (o := .cells #[.int .i64 t246, .int .i64 t247, .slice Ao29 t248.length co29] 28 (0, 0)) (by (with_reducible repeat (first | refine blk_drewN ?_ _ | refine blk_drew ?_ | refine blk_alloc ?_ _)); exact BK252.out)) : gb252 ≠ gb268)); have n16_ := Aside0.mk ((by rw [hg]; exact Nat.ne_of_gt (blk_lt (g := gb252) (o := .cells #[.int .i64 t246, .int .i64 t247, .slice Ao29 t248.length co29] 28 (0, 0)) (by (with_reducible repeat (first | refine blk_drewN ?_ _ | refine blk_drew ?_ | refine blk_alloc ?_ _)); exact BK252.out)) : gb268 ≠ gb252)); have n17_ := Aside0.mk ((by rw [hg]; exact Nat.ne_of_lt (blk_lt (g := gb258) (o := .cells #[.int .i64 t253, .int .i64 t254, .slice Ao36 t255.length co36] 28 (0, 0)) (by (with_reducible repeat (first | refine blk_drewN ?_ _ | refine blk_drew ?_ | refine blk_alloc ?_ _)); exact BK258.out)) : gb258 ≠ gb268)); have n18_ := Aside0.mk ((by rw [hg]; exact Nat.ne_of_gt (blk_lt (g := gb258) (o := .cells #[.int .i64 t253, .int .i64 t254, .slice Ao36 t255.length co36] 28 (0, 0)) (by (with_reducible repeat (first | refine blk_drewN ?_ _ | refine blk_drew ?_ | refine blk_alloc ?_ _)); exact BK258.out)) : gb268 ≠ gb258)); clear HO242; clear HO245; clear HO250; clear HO257; clear HO261; clear HO266; clear BK236; clear BK252; clear BK258; clear HB; have HO242 := n0_; have HO245 := n1_; have HO250 := n2_; have HO257 := n3_; have HO261 := n4_; have HO266 := n5_; have BK236 := n6_; have BK252 := n7_; have BK258 := n8_; have HB := n9_; have BK268 := n10_; have GW268 := n11_; have GE268 := n12_; have NB236_268 := n13_; have NB268_236 := n14_; have NB252_268 := n15_; have NB268_252 := n16_; have NB258_268 := n17_; have NB268_258 := n18_; clear n0_ n1_ n2_ n3_ n4_ n5_ n6_ n7_ n8_ n9_ n10_ n11_ n12_ n13_ n14_ n15_ n16_ n17_ n18_; clear hb hbox hg; have hnb42 := NB268_236.out; have hnc42 := NB236_268.out; have hnb43 := NB268_252.out; have hnc43 := NB252_268.out; have hnb44 := NB268_258.out; have hnc44 := NB258_268.out; have hcz45_0 : w41.cell? ⟨gb268, 0, none⟩ = some (.int .i64 0) := (blk_cell BK268.out 0).trans rfl; have hcz45_1 : w41.cell? ⟨gb268, 1, none⟩ = some (.int .i64 0) := (blk_cell BK268.out 1).trans rfl; have hcz45_2 : w41.cell? ⟨gb268, 2, none⟩ = some (.slice none 0 0) := (blk_cell BK268.out 2).trans rfl; have hfz45_0 := blk_frozen BK268.out 0; have hfz45_1 := blk_frozen BK268.out 1; have hfz45_2 := blk_frozen BK268.out 2; obtain ⟨Ao46, co46, eo46⟩ := Kd.R_slice HO266.out; subst eo46))
      (try simp only [Act.put, List.setIfInBounds_toArray, List.set_cons_zero, List.set_cons_succ])
      go_cut [51] (fun v51 wc => ∃ (kq : Nat) (x51_15 : Bool), v51 = .bool x51_15 ∧ Aside0 (laws_FnExactCoverOf.j0 kq l1 t251 t259 t267 x51_15 a0_0 a0_1 l0_2 t246 t247 t248 t253 t254 t255 t262 t263 t264 = some true) ∧ Aside0 (kq ≤ k) ∧ Aside0 (Kd.R (Kd.int .i64) 3 wc w.heap.size (fun k_ => some k_ ≠ ((.slice Ao29 t248.length co29) : Value).ownBlock ∧ some k_ ≠ ((.slice Ao36 t255.length co36) : Value).ownBlock ∧ some k_ ≠ ((.slice Ao46 t264.length co46) : Value).ownBlock) (.slice Ao39 t259.length co39) t259) ∧ Aside0 (Kd.R (Kd.int .i64) 3 wc w.heap.size (fun k_ => some k_ ≠ ((.slice Ao39 t259.length co39) : Value).ownBlock ∧ some k_ ≠ ((.slice Ao36 t255.length co36) : Value).ownBlock ∧ some k_ ≠ ((.slice Ao46 t264.length co46) : Value).ownBlock) (.slice Ao29 t248.length co29) t248) ∧ Aside0 (Kd.R (Kd.int .i64) 3 wc w.heap.size (fun k_ => some k_ ≠ ((.slice Ao39 t259.length co39) : Value).ownBlock ∧ some k_ ≠ ((.slice Ao29 t248.length co29) : Value).ownBlock ∧ some k_ ≠ ((.slice Ao46 t264.length co46) : Value).ownBlock) (.slice Ao36 t255.length co36) t255) ∧ Aside0 (Kd.R (Kd.int .i64) 3 wc w.heap.size (fun k_ => some k_ ≠ ((.slice Ao39 t259.length co39) : Value).ownBlock ∧ some k_ ≠ ((.slice Ao29 t248.length co29) : Value).ownBlock ∧ some k_ ≠ ((.slice Ao36 t255.length co36) : Value).ownBlock) (.slice Ao46 t264.length co46) t264) ∧ Aside0 (wc.heap[gb236]? = some (.cells #[.int .i64 a0_0, .int .i64 a0_1, (.slice A0_2 l0_2.length c0_2)] 24 (0, 0))) ∧ Aside0 (wc.heap[gb252]? = some (.cells #[.int .i64 t246, .int .i64 t247, (.slice Ao29 t248.length co29)] 28 (0, 0))) ∧ Aside0 (wc.heap[gb258]? = some (.cells #[.int .i64 t253, .int .i64 t254, (.slice Ao36 t255.length co36)] 28 (0, 0))) ∧ Aside0 (wc.heap[gb268]? = some (.cells #[.int .i64 t262, .int .i64 t263, (.slice Ao46 t264.length co46)] 28 (0, 0))) ∧ Aside0 (Below w.heap.size w wc))
      case first =>
        have H := HC16.out
        clear HC16
        replace H := Option.bind_eq_some_iff.mp H
        obtain ⟨t269, A470, H⟩ := H
        replace H : (if t269 = true then (laws_FnExactCoverOf.j0 k l1 t251 t259 t267 (t267 != t251) a0_0 a0_1 l0_2 t246 t247 t248 t253 t254 t255 t262 t263 t264) else (laws_FnExactCoverOf.j0 k l1 t251 t259 t267 true a0_0 a0_1 l0_2 t246 t247 t248 t253 t254 t255 t262 t263 t264)) = some true := H
        have A47 := Aside0.mk A470
        clear A470
        by_cases c48 : t269 = true
        · subst c48
          have H1 : (laws_FnExactCoverOf.j0 k l1 t251 t259 t267 (t267 != t251) a0_0 a0_1 l0_2 t246 t247 t248 t253 t254 t255 t262 t263 t264) = some true := by first | exact rfl | (rw [if_pos rfl] at H; exact H)
          clear H
          have H := H1
          clear H1
          have H' := Aside0.mk H
          clear H
          have hnb49 := NB268_236.out
          have hnc49 := NB236_268.out
          have hnb50 := NB268_252.out
          have hnc50 := NB252_268.out
          have hnb51 := NB268_258.out
          have hnc51 := NB258_268.out
          have hcz52_0 : w41.cell? ⟨gb268, 0, none⟩ = some (.int .i64 0) := (blk_cell BK268.out 0).trans rfl
          have hcz52_1 : w41.cell? ⟨gb268, 1, none⟩ = some (.int .i64 0) := (blk_cell BK268.out 1).trans rfl
          have hcz52_2 : w41.cell? ⟨gb268, 2, none⟩ = some (.slice none 0 0) := (blk_cell BK268.out 2).trans rfl
          have hfz52_0 := blk_frozen BK268.out 0
          have hfz52_1 := blk_frozen BK268.out 1
          have hfz52_2 := blk_frozen BK268.out 2
          have hnb53 := NB252_236.out
          have hnc53 := NB236_252.out
          have hnb54 := NB252_258.out
          have hnc54 := NB258_252.out
          have hcz55_0 : w41.cell? ⟨gb252, 0, none⟩ = some (.int .i64 t246) := (blk_cell BK252.out 0).trans rfl
          have hcz55_1 : w41.cell? ⟨gb252, 1, none⟩ = some (.int .i64 t247) := (blk_cell BK252.out 1).trans rfl
          have hcz55_2 : w41.cell? ⟨gb252, 2, none⟩ = some (.slice Ao29 t248.length co29) := (blk_cell BK252.out 2).trans rfl
          have hfz55_0 := blk_frozen BK252.out 0
          have hfz55_1 := blk_frozen BK252.out 1
          have hfz55_2 := blk_frozen BK252.out 2
          go_wp2_with (first | ((with_reducible refine gate_callee (f := 17) rfl ?_); refine goesL_ (some 45) rfl rfl Try.func17 (by kernel_rfl) rfl #[.agg #[.int .i64 t262, .int .i64 t263, .slice Ao46 t264.length co46], .agg #[.int .i64 t246, .int .i64 t247, .slice Ao29 t248.length co29]] rfl (by (try simp only [List.map_toArray, List.map_cons, List.map_nil]); first | done | rfl | (simp only [List.length_drop, List.length_take]; rfl)) ?_; (with_reducible refine (laws_eqTable.calls k t262 t263 _ _ t264 t246 t247 _ _ t248 true _ ?side1 ?side2 ?side3 ?side4 A47.out).mono ?_); (case side1 => refine (Kd.R_reads' (e := 3) (base := w.heap.size) (ok := fun k_ => (((((True ∧ some k_ ≠ (.slice Ao23 t240.length co23 : Value).ownBlock) ∧ some k_ ≠ (.slice Ao24 t243.length co24 : Value).ownBlock) ∧ some k_ ≠ (.slice Ao29 t248.length co29 : Value).ownBlock) ∧ some k_ ≠ (.slice Ao36 t255.length co36 : Value).ownBlock) ∧ some k_ ≠ (.slice Ao39 t259.length co39 : Value).ownBlock)) (n := t264.length) (c := co46) ?_).2.2; exact (by (with_reducible repeat (first | apply Kd.R_alloc | apply Kd.R_drewN | apply Kd.R_drew)); exact (Kd.R_mono (Kd.R_far (p := ⟨gb268, 2, none⟩) (Kd.R_far (p := ⟨gb268, 1, none⟩) (Kd.R_far (p := ⟨gb268, 0, none⟩) (Kd.R_types HO266.out BK268.out (by decide)) (fun _ hk => hk.2) (.int .i64 t262)) (fun _ hk => hk.2) (.int .i64 t263)) (fun _ hk => hk.2) (.slice Ao46 t264.length co46)) (fun _ h_ => h_.1)))); (case side2 => exact (Kd.R_reads' HO266.out).2.1); (case side3 => refine (Kd.R_reads' (e := 3) (base := w.heap.size) (ok := fun k_ => (((((True ∧ some k_ ≠ (.slice Ao23 t240.length co23 : Value).ownBlock) ∧ some k_ ≠ (.slice Ao24 t243.length co24 : Value).ownBlock) ∧ some k_ ≠ (.slice Ao36 t255.length co36 : Value).ownBlock) ∧ some k_ ≠ (.slice Ao39 t259.length co39 : Value).ownBlock) ∧ some k_ ≠ (.slice Ao46 t264.length co46 : Value).ownBlock)) (n := t248.length) (c := co29) ?_).2.2; exact (by (with_reducible repeat (first | apply Kd.R_alloc | apply Kd.R_drewN | apply Kd.R_drew)); exact (Kd.R_mono (Kd.R_far (p := ⟨gb268, 2, none⟩) (Kd.R_far (p := ⟨gb268, 1, none⟩) (Kd.R_far (p := ⟨gb268, 0, none⟩) (Kd.R_types HO250.out BK268.out (by decide)) (fun _ hk => hk.2) (.int .i64 t262)) (fun _ hk => hk.2) (.int .i64 t263)) (fun _ hk => hk.2) (.slice Ao46 t264.length co46)) (fun _ h_ => h_.1)))); (case side4 => exact (Kd.R_reads' HO250.out).2.1); rintro e w56 ⟨rfl, hb⟩; refine ⟨_, rfl, ?_⟩; have n0_ := Aside0.mk (Kd.R_below (by (with_reducible repeat (first | apply Kd.R_alloc | apply Kd.R_drewN | apply Kd.R_drew)); exact (Kd.R_mono (Kd.R_far (p := ⟨gb268, 2, none⟩) (Kd.R_far (p := ⟨gb268, 1, none⟩) (Kd.R_far (p := ⟨gb268, 0, none⟩) (Kd.R_types HO242.out BK268.out (by decide)) (fun _ hk => hk.2) (.int .i64 t262)) (fun _ hk => hk.2) (.int .i64 t263)) (fun _ hk => hk.2) (.slice Ao46 t264.length co46)) (fun _ h_ => h_.1))) hb); have n1_ := Aside0.mk (Kd.R_below (by (with_reducible repeat (first | apply Kd.R_alloc | apply Kd.R_drewN | apply Kd.R_drew)); exact (Kd.R_mono (Kd.R_far (p := ⟨gb268, 2, none⟩) (Kd.R_far (p := ⟨gb268, 1, none⟩) (Kd.R_far (p := ⟨gb268, 0, none⟩) (Kd.R_types HO245.out BK268.out (by decide)) (fun _ hk => hk.2) (.int .i64 t262)) (fun _ hk => hk.2) (.int .i64 t263)) (fun _ hk => hk.2) (.slice Ao46 t264.length co46)) (fun _ h_ => h_.1))) hb); have n2_ := Aside0.mk (Kd.R_below (by (with_reducible repeat (first | apply Kd.R_alloc | apply Kd.R_drewN | apply Kd.R_drew)); exact (Kd.R_mono (Kd.R_far (p := ⟨gb268, 2, none⟩) (Kd.R_far (p := ⟨gb268, 1, none⟩) (Kd.R_far (p := ⟨gb268, 0, none⟩) (Kd.R_types HO250.out BK268.out (by decide)) (fun _ hk => hk.2) (.int .i64 t262)) (fun _ hk => hk.2) (.int .i64 t263)) (fun _ hk => hk.2) (.slice Ao46 t264.length co46)) (fun _ h_ => h_.1))) hb); have n3_ := Aside0.mk (Kd.R_below (by (with_reducible repeat (first | apply Kd.R_alloc | apply Kd.R_drewN | apply Kd.R_drew)); exact (Kd.R_mono (Kd.R_far (p := ⟨gb268, 2, none⟩) (Kd.R_far (p := ⟨gb268, 1, none⟩) (Kd.R_far (p := ⟨gb268, 0, none⟩) (Kd.R_types HO257.out BK268.out (by decide)) (fun _ hk => hk.2) (.int .i64 t262)) (fun _ hk => hk.2) (.int .i64 t263)) (fun _ hk => hk.2) (.slice Ao46 t264.length co46)) (fun _ h_ => h_.1))) hb); have n4_ := Aside0.mk (Kd.R_below (by (with_reducible repeat (first | apply Kd.R_alloc | apply Kd.R_drewN | apply Kd.R_drew)); exact (Kd.R_mono (Kd.R_far (p := ⟨gb268, 2, none⟩) (Kd.R_far (p := ⟨gb268, 1, none⟩) (Kd.R_far (p := ⟨gb268, 0, none⟩) (Kd.R_types HO261.out BK268.out (by decide)) (fun _ hk => hk.2) (.int .i64 t262)) (fun _ hk => hk.2) (.int .i64 t263)) (fun _ hk => hk.2) (.slice Ao46 t264.length co46)) (fun _ h_ => h_.1))) hb); have n5_ := Aside0.mk (Kd.R_below (by (with_reducible repeat (first | apply Kd.R_alloc | apply Kd.R_drewN | apply Kd.R_drew)); exact (Kd.R_mono (Kd.R_far (p := ⟨gb268, 2, none⟩) (Kd.R_far (p := ⟨gb268, 1, none⟩) (Kd.R_far (p := ⟨gb268, 0, none⟩) (Kd.R_types HO266.out BK268.out (by decide)) (fun _ hk => hk.2) (.int .i64 t262)) (fun _ hk => hk.2) (.int .i64 t263)) (fun _ hk => hk.2) (.slice Ao46 t264.length co46)) (fun _ h_ => h_.1))) hb); have n6_ := Aside0.mk (blk_below (g := gb236) (o := .cells #[.int .i64 a0_0, .int .i64 a0_1, .slice A0_2 l0_2.length c0_2] 24 (0, 0)) (by (with_reducible repeat (first | refine blk_drewN ?_ _ | refine blk_drew ?_ | refine blk_alloc ?_ _)); refine blk_far ?_ NB236_268.out _; (with_reducible repeat (first | refine blk_drewN ?_ _ | refine blk_drew ?_ | refine blk_alloc ?_ _)); refine blk_far ?_ NB236_268.out _; (with_reducible repeat (first | refine blk_drewN ?_ _ | refine blk_drew ?_ | refine blk_alloc ?_ _)); refine blk_far ?_ NB236_268.out _; (with_reducible repeat (first | refine blk_drewN ?_ _ | refine blk_drew ?_ | refine blk_alloc ?_ _)); exact BK236.out) hb); have n7_ := Aside0.mk (blk_below (g := gb252) (o := .cells #[.int .i64 t246, .int .i64 t247, .slice Ao29 t248.length co29] 28 (0, 0)) (by (with_reducible repeat (first | refine blk_drewN ?_ _ | refine blk_drew ?_ | refine blk_alloc ?_ _)); refine blk_far ?_ NB252_268.out _; (with_reducible repeat (first | refine blk_drewN ?_ _ | refine blk_drew ?_ | refine blk_alloc ?_ _)); refine blk_far ?_ NB252_268.out _; (with_reducible repeat (first | refine blk_drewN ?_ _ | refine blk_drew ?_ | refine blk_alloc ?_ _)); refine blk_far ?_ NB252_268.out _; (with_reducible repeat (first | refine blk_drewN ?_ _ | refine blk_drew ?_ | refine blk_alloc ?_ _)); exact BK252.out) hb); have n8_ := Aside0.mk (blk_below (g := gb258) (o := .cells #[.int .i64 t253, .int .i64 t254, .slice Ao36 t255.length co36] 28 (0, 0)) (by (with_reducible repeat (first | refine blk_drewN ?_ _ | refine blk_drew ?_ | refine blk_alloc ?_ _)); refine blk_far ?_ NB258_268.out _; (with_reducible repeat (first | refine blk_drewN ?_ _ | refine blk_drew ?_ | refine blk_alloc ?_ _)); refine blk_far ?_ NB258_268.out _; (with_reducible repeat (first | refine blk_drewN ?_ _ | refine blk_drew ?_ | refine blk_alloc ?_ _)); refine blk_far ?_ NB258_268.out _; (with_reducible repeat (first | refine blk_drewN ?_ _ | refine blk_drew ?_ | refine blk_alloc ?_ _)); exact BK258.out) hb); have n9_ := Aside0.mk (blk_below (g := gb268) (o := .cells #[.int .i64 t262, .int .i64 t263, .slice Ao46 t264.length co46] 28 (0, 0)) (by (with_reducible repeat (first | refine blk_drewN ?_ _ | refine blk_drew ?_ | refine blk_alloc ?_ _)); refine blk_put (cs := #[.int .i64 t262, .int .i64 t263, .slice none 0 0]) ?_ 2 _ rfl; (with_reducible repeat (first | refine blk_drewN ?_ _ | refine blk_drew ?_ | refine blk_alloc ?_ _)); refine blk_put (cs := #[.int .i64 t262, .int .i64 0, .slice none 0 0]) ?_ 1 _ rfl; (with_reducible repeat (first | refine blk_drewN ?_ _ | refine blk_drew ?_ | refine blk_alloc ?_ _)); refine blk_put (cs := #[.int .i64 0, .int .i64 0, .slice none 0 0]) ?_ 0 _ rfl; (with_reducible repeat (first | refine blk_drewN ?_ _ | refine blk_drew ?_ | refine blk_alloc ?_ _)); exact BK268.out) hb); have n10_ := Aside0.mk (below_step (by repeat (first | (with_reducible first | exact HB.out | apply below_alloc | apply pw_below_drewN | apply below_drew1 | refine below_set ?_ GE236.out | refine below_set ?_ GE252.out | refine below_set ?_ GE258.out | refine below_set ?_ GE268.out) | exact HB.out)) hb); clear HO242; clear HO245; clear HO250; clear HO257; clear HO261; clear HO266; clear BK236; clear BK252; clear BK258; clear BK268; clear HB; have HO242 := n0_; have HO245 := n1_; have HO250 := n2_; have HO257 := n3_; have HO261 := n4_; have HO266 := n5_; have BK236 := n6_; have BK252 := n7_; have BK258 := n8_; have BK268 := n9_; have HB := n10_; clear n0_ n1_ n2_ n3_ n4_ n5_ n6_ n7_ n8_ n9_ n10_; (try clear hb); (try clear hb2); (try clear hk); (try clear hi)))
          go_meet
          case rel => exact ⟨_, ((t267 != t251)), (by first | rfl | (simp; done) | (simp [*]; done)), H', ⟨by first | omega | exact Nat.le_refl _⟩, ⟨by (with_reducible repeat (first | apply Kd.R_alloc | apply Kd.R_drewN | apply Kd.R_drew)); exact Kd.R_mono HO261.out (fun _ hk => ⟨hk.1.1.2, ⟨hk.1.2, hk.2⟩⟩)⟩, ⟨by (with_reducible repeat (first | apply Kd.R_alloc | apply Kd.R_drewN | apply Kd.R_drew)); exact Kd.R_mono HO250.out (fun _ hk => ⟨hk.1.2, ⟨hk.1.1.2, hk.2⟩⟩)⟩, ⟨by (with_reducible repeat (first | apply Kd.R_alloc | apply Kd.R_drewN | apply Kd.R_drew)); exact Kd.R_mono HO257.out (fun _ hk => ⟨hk.1.2, ⟨hk.1.1.2, hk.2⟩⟩)⟩, ⟨by (with_reducible repeat (first | apply Kd.R_alloc | apply Kd.R_drewN | apply Kd.R_drew)); exact Kd.R_mono HO266.out (fun _ hk => ⟨hk.2, ⟨hk.1.1.2, hk.1.2⟩⟩)⟩, ⟨by (with_reducible repeat (first | refine blk_drewN ?_ _ | refine blk_drew ?_ | refine blk_alloc ?_ _)); exact BK236.out⟩, ⟨by (with_reducible repeat (first | refine blk_drewN ?_ _ | refine blk_drew ?_ | refine blk_alloc ?_ _)); exact BK252.out⟩, ⟨by (with_reducible repeat (first | refine blk_drewN ?_ _ | refine blk_drew ?_ | refine blk_alloc ?_ _)); exact BK258.out⟩, ⟨by (with_reducible repeat (first | refine blk_drewN ?_ _ | refine blk_drew ?_ | refine blk_alloc ?_ _)); exact BK268.out⟩, ⟨by repeat (first | (with_reducible first | exact HB.out | apply below_alloc | apply pw_below_drewN | apply below_drew1 | refine below_set ?_ GE236.out | refine below_set ?_ GE252.out | refine below_set ?_ GE258.out | refine below_set ?_ GE268.out) | exact HB.out)⟩⟩
        · replace c48 := Bool.eq_false_iff.mpr c48
          subst c48
          have H1 : (laws_FnExactCoverOf.j0 k l1 t251 t259 t267 true a0_0 a0_1 l0_2 t246 t247 t248 t253 t254 t255 t262 t263 t264) = some true := by first | exact rfl | (rw [if_neg (show ¬ (false = true) by decide)] at H; exact H)
          clear H
          have H := H1
          clear H1
          have H' := Aside0.mk H
          clear H
          have hnb57 := NB268_236.out
          have hnc57 := NB236_268.out
          have hnb58 := NB268_252.out
          have hnc58 := NB252_268.out
          have hnb59 := NB268_258.out
          have hnc59 := NB258_268.out
          have hcz60_0 : w41.cell? ⟨gb268, 0, none⟩ = some (.int .i64 0) := (blk_cell BK268.out 0).trans rfl
          have hcz60_1 : w41.cell? ⟨gb268, 1, none⟩ = some (.int .i64 0) := (blk_cell BK268.out 1).trans rfl
          have hcz60_2 : w41.cell? ⟨gb268, 2, none⟩ = some (.slice none 0 0) := (blk_cell BK268.out 2).trans rfl
          have hfz60_0 := blk_frozen BK268.out 0
          have hfz60_1 := blk_frozen BK268.out 1
          have hfz60_2 := blk_frozen BK268.out 2
          have hnb61 := NB252_236.out
          have hnc61 := NB236_252.out
          have hnb62 := NB252_258.out
          have hnc62 := NB258_252.out
          have hcz63_0 : w41.cell? ⟨gb252, 0, none⟩ = some (.int .i64 t246) := (blk_cell BK252.out 0).trans rfl
          have hcz63_1 : w41.cell? ⟨gb252, 1, none⟩ = some (.int .i64 t247) := (blk_cell BK252.out 1).trans rfl
          have hcz63_2 : w41.cell? ⟨gb252, 2, none⟩ = some (.slice Ao29 t248.length co29) := (blk_cell BK252.out 2).trans rfl
          have hfz63_0 := blk_frozen BK252.out 0
          have hfz63_1 := blk_frozen BK252.out 1
          have hfz63_2 := blk_frozen BK252.out 2
          go_wp2_with (first | ((with_reducible refine gate_callee (f := 17) rfl ?_); refine goesL_ (some 45) rfl rfl Try.func17 (by kernel_rfl) rfl #[.agg #[.int .i64 t262, .int .i64 t263, .slice Ao46 t264.length co46], .agg #[.int .i64 t246, .int .i64 t247, .slice Ao29 t248.length co29]] rfl (by (try simp only [List.map_toArray, List.map_cons, List.map_nil]); first | done | rfl | (simp only [List.length_drop, List.length_take]; rfl)) ?_; (with_reducible refine (laws_eqTable.calls k t262 t263 _ _ t264 t246 t247 _ _ t248 false _ ?side1 ?side2 ?side3 ?side4 A47.out).mono ?_); (case side1 => refine (Kd.R_reads' (e := 3) (base := w.heap.size) (ok := fun k_ => (((((True ∧ some k_ ≠ (.slice Ao23 t240.length co23 : Value).ownBlock) ∧ some k_ ≠ (.slice Ao24 t243.length co24 : Value).ownBlock) ∧ some k_ ≠ (.slice Ao29 t248.length co29 : Value).ownBlock) ∧ some k_ ≠ (.slice Ao36 t255.length co36 : Value).ownBlock) ∧ some k_ ≠ (.slice Ao39 t259.length co39 : Value).ownBlock)) (n := t264.length) (c := co46) ?_).2.2; exact (by (with_reducible repeat (first | apply Kd.R_alloc | apply Kd.R_drewN | apply Kd.R_drew)); exact (Kd.R_mono (Kd.R_far (p := ⟨gb268, 2, none⟩) (Kd.R_far (p := ⟨gb268, 1, none⟩) (Kd.R_far (p := ⟨gb268, 0, none⟩) (Kd.R_types HO266.out BK268.out (by decide)) (fun _ hk => hk.2) (.int .i64 t262)) (fun _ hk => hk.2) (.int .i64 t263)) (fun _ hk => hk.2) (.slice Ao46 t264.length co46)) (fun _ h_ => h_.1)))); (case side2 => exact (Kd.R_reads' HO266.out).2.1); (case side3 => refine (Kd.R_reads' (e := 3) (base := w.heap.size) (ok := fun k_ => (((((True ∧ some k_ ≠ (.slice Ao23 t240.length co23 : Value).ownBlock) ∧ some k_ ≠ (.slice Ao24 t243.length co24 : Value).ownBlock) ∧ some k_ ≠ (.slice Ao36 t255.length co36 : Value).ownBlock) ∧ some k_ ≠ (.slice Ao39 t259.length co39 : Value).ownBlock) ∧ some k_ ≠ (.slice Ao46 t264.length co46 : Value).ownBlock)) (n := t248.length) (c := co29) ?_).2.2; exact (by (with_reducible repeat (first | apply Kd.R_alloc | apply Kd.R_drewN | apply Kd.R_drew)); exact (Kd.R_mono (Kd.R_far (p := ⟨gb268, 2, none⟩) (Kd.R_far (p := ⟨gb268, 1, none⟩) (Kd.R_far (p := ⟨gb268, 0, none⟩) (Kd.R_types HO250.out BK268.out (by decide)) (fun _ hk => hk.2) (.int .i64 t262)) (fun _ hk => hk.2) (.int .i64 t263)) (fun _ hk => hk.2) (.slice Ao46 t264.length co46)) (fun _ h_ => h_.1)))); (case side4 => exact (Kd.R_reads' HO250.out).2.1); rintro e w64 ⟨rfl, hb⟩; refine ⟨_, rfl, ?_⟩; have n0_ := Aside0.mk (Kd.R_below (by (with_reducible repeat (first | apply Kd.R_alloc | apply Kd.R_drewN | apply Kd.R_drew)); exact (Kd.R_mono (Kd.R_far (p := ⟨gb268, 2, none⟩) (Kd.R_far (p := ⟨gb268, 1, none⟩) (Kd.R_far (p := ⟨gb268, 0, none⟩) (Kd.R_types HO242.out BK268.out (by decide)) (fun _ hk => hk.2) (.int .i64 t262)) (fun _ hk => hk.2) (.int .i64 t263)) (fun _ hk => hk.2) (.slice Ao46 t264.length co46)) (fun _ h_ => h_.1))) hb); have n1_ := Aside0.mk (Kd.R_below (by (with_reducible repeat (first | apply Kd.R_alloc | apply Kd.R_drewN | apply Kd.R_drew)); exact (Kd.R_mono (Kd.R_far (p := ⟨gb268, 2, none⟩) (Kd.R_far (p := ⟨gb268, 1, none⟩) (Kd.R_far (p := ⟨gb268, 0, none⟩) (Kd.R_types HO245.out BK268.out (by decide)) (fun _ hk => hk.2) (.int .i64 t262)) (fun _ hk => hk.2) (.int .i64 t263)) (fun _ hk => hk.2) (.slice Ao46 t264.length co46)) (fun _ h_ => h_.1))) hb); have n2_ := Aside0.mk (Kd.R_below (by (with_reducible repeat (first | apply Kd.R_alloc | apply Kd.R_drewN | apply Kd.R_drew)); exact (Kd.R_mono (Kd.R_far (p := ⟨gb268, 2, none⟩) (Kd.R_far (p := ⟨gb268, 1, none⟩) (Kd.R_far (p := ⟨gb268, 0, none⟩) (Kd.R_types HO250.out BK268.out (by decide)) (fun _ hk => hk.2) (.int .i64 t262)) (fun _ hk => hk.2) (.int .i64 t263)) (fun _ hk => hk.2) (.slice Ao46 t264.length co46)) (fun _ h_ => h_.1))) hb); have n3_ := Aside0.mk (Kd.R_below (by (with_reducible repeat (first | apply Kd.R_alloc | apply Kd.R_drewN | apply Kd.R_drew)); exact (Kd.R_mono (Kd.R_far (p := ⟨gb268, 2, none⟩) (Kd.R_far (p := ⟨gb268, 1, none⟩) (Kd.R_far (p := ⟨gb268, 0, none⟩) (Kd.R_types HO257.out BK268.out (by decide)) (fun _ hk => hk.2) (.int .i64 t262)) (fun _ hk => hk.2) (.int .i64 t263)) (fun _ hk => hk.2) (.slice Ao46 t264.length co46)) (fun _ h_ => h_.1))) hb); have n4_ := Aside0.mk (Kd.R_below (by (with_reducible repeat (first | apply Kd.R_alloc | apply Kd.R_drewN | apply Kd.R_drew)); exact (Kd.R_mono (Kd.R_far (p := ⟨gb268, 2, none⟩) (Kd.R_far (p := ⟨gb268, 1, none⟩) (Kd.R_far (p := ⟨gb268, 0, none⟩) (Kd.R_types HO261.out BK268.out (by decide)) (fun _ hk => hk.2) (.int .i64 t262)) (fun _ hk => hk.2) (.int .i64 t263)) (fun _ hk => hk.2) (.slice Ao46 t264.length co46)) (fun _ h_ => h_.1))) hb); have n5_ := Aside0.mk (Kd.R_below (by (with_reducible repeat (first | apply Kd.R_alloc | apply Kd.R_drewN | apply Kd.R_drew)); exact (Kd.R_mono (Kd.R_far (p := ⟨gb268, 2, none⟩) (Kd.R_far (p := ⟨gb268, 1, none⟩) (Kd.R_far (p := ⟨gb268, 0, none⟩) (Kd.R_types HO266.out BK268.out (by decide)) (fun _ hk => hk.2) (.int .i64 t262)) (fun _ hk => hk.2) (.int .i64 t263)) (fun _ hk => hk.2) (.slice Ao46 t264.length co46)) (fun _ h_ => h_.1))) hb); have n6_ := Aside0.mk (blk_below (g := gb236) (o := .cells #[.int .i64 a0_0, .int .i64 a0_1, .slice A0_2 l0_2.length c0_2] 24 (0, 0)) (by (with_reducible repeat (first | refine blk_drewN ?_ _ | refine blk_drew ?_ | refine blk_alloc ?_ _)); refine blk_far ?_ NB236_268.out _; (with_reducible repeat (first | refine blk_drewN ?_ _ | refine blk_drew ?_ | refine blk_alloc ?_ _)); refine blk_far ?_ NB236_268.out _; (with_reducible repeat (first | refine blk_drewN ?_ _ | refine blk_drew ?_ | refine blk_alloc ?_ _)); refine blk_far ?_ NB236_268.out _; (with_reducible repeat (first | refine blk_drewN ?_ _ | refine blk_drew ?_ | refine blk_alloc ?_ _)); exact BK236.out) hb); have n7_ := Aside0.mk (blk_below (g := gb252) (o := .cells #[.int .i64 t246, .int .i64 t247, .slice Ao29 t248.length co29] 28 (0, 0)) (by (with_reducible repeat (first | refine blk_drewN ?_ _ | refine blk_drew ?_ | refine blk_alloc ?_ _)); refine blk_far ?_ NB252_268.out _; (with_reducible repeat (first | refine blk_drewN ?_ _ | refine blk_drew ?_ | refine blk_alloc ?_ _)); refine blk_far ?_ NB252_268.out _; (with_reducible repeat (first | refine blk_drewN ?_ _ | refine blk_drew ?_ | refine blk_alloc ?_ _)); refine blk_far ?_ NB252_268.out _; (with_reducible repeat (first | refine blk_drewN ?_ _ | refine blk_drew ?_ | refine blk_alloc ?_ _)); exact BK252.out) hb); have n8_ := Aside0.mk (blk_below (g := gb258) (o := .cells #[.int .i64 t253, .int .i64 t254, .slice Ao36 t255.length co36] 28 (0, 0)) (by (with_reducible repeat (first | refine blk_drewN ?_ _ | refine blk_drew ?_ | refine blk_alloc ?_ _)); refine blk_far ?_ NB258_268.out _; (with_reducible repeat (first | refine blk_drewN ?_ _ | refine blk_drew ?_ | refine blk_alloc ?_ _)); refine blk_far ?_ NB258_268.out _; (with_reducible repeat (first | refine blk_drewN ?_ _ | refine blk_drew ?_ | refine blk_alloc ?_ _)); refine blk_far ?_ NB258_268.out _; (with_reducible repeat (first | refine blk_drewN ?_ _ | refine blk_drew ?_ | refine blk_alloc ?_ _)); exact BK258.out) hb); have n9_ := Aside0.mk (blk_below (g := gb268) (o := .cells #[.int .i64 t262, .int .i64 t263, .slice Ao46 t264.length co46] 28 (0, 0)) (by (with_reducible repeat (first | refine blk_drewN ?_ _ | refine blk_drew ?_ | refine blk_alloc ?_ _)); refine blk_put (cs := #[.int .i64 t262, .int .i64 t263, .slice none 0 0]) ?_ 2 _ rfl; (with_reducible repeat (first | refine blk_drewN ?_ _ | refine blk_drew ?_ | refine blk_alloc ?_ _)); refine blk_put (cs := #[.int .i64 t262, .int .i64 0, .slice none 0 0]) ?_ 1 _ rfl; (with_reducible repeat (first | refine blk_drewN ?_ _ | refine blk_drew ?_ | refine blk_alloc ?_ _)); refine blk_put (cs := #[.int .i64 0, .int .i64 0, .slice none 0 0]) ?_ 0 _ rfl; (with_reducible repeat (first | refine blk_drewN ?_ _ | refine blk_drew ?_ | refine blk_alloc ?_ _)); exact BK268.out) hb); have n10_ := Aside0.mk (below_step (by repeat (first | (with_reducible first | exact HB.out | apply below_alloc | apply pw_below_drewN | apply below_drew1 | refine below_set ?_ GE236.out | refine below_set ?_ GE252.out | refine below_set ?_ GE258.out | refine below_set ?_ GE268.out) | exact HB.out)) hb); clear HO242; clear HO245; clear HO250; clear HO257; clear HO261; clear HO266; clear BK236; clear BK252; clear BK258; clear BK268; clear HB; have HO242 := n0_; have HO245 := n1_; have HO250 := n2_; have HO257 := n3_; have HO261 := n4_; have HO266 := n5_; have BK236 := n6_; have BK252 := n7_; have BK258 := n8_; have BK268 := n9_; have HB := n10_; clear n0_ n1_ n2_ n3_ n4_ n5_ n6_ n7_ n8_ n9_ n10_; (try clear hb); (try clear hb2); (try clear hk); (try clear hi)))
          go_meet
          case rel => exact ⟨_, (true), (by first | rfl | (simp; done) | (simp [*]; done)), H', ⟨by first | omega | exact Nat.le_refl _⟩, ⟨by (with_reducible repeat (first | apply Kd.R_alloc | apply Kd.R_drewN | apply Kd.R_drew)); exact Kd.R_mono HO261.out (fun _ hk => ⟨hk.1.1.2, ⟨hk.1.2, hk.2⟩⟩)⟩, ⟨by (with_reducible repeat (first | apply Kd.R_alloc | apply Kd.R_drewN | apply Kd.R_drew)); exact Kd.R_mono HO250.out (fun _ hk => ⟨hk.1.2, ⟨hk.1.1.2, hk.2⟩⟩)⟩, ⟨by (with_reducible repeat (first | apply Kd.R_alloc | apply Kd.R_drewN | apply Kd.R_drew)); exact Kd.R_mono HO257.out (fun _ hk => ⟨hk.1.2, ⟨hk.1.1.2, hk.2⟩⟩)⟩, ⟨by (with_reducible repeat (first | apply Kd.R_alloc | apply Kd.R_drewN | apply Kd.R_drew)); exact Kd.R_mono HO266.out (fun _ hk => ⟨hk.2, ⟨hk.1.1.2, hk.1.2⟩⟩)⟩, ⟨by (with_reducible repeat (first | refine blk_drewN ?_ _ | refine blk_drew ?_ | refine blk_alloc ?_ _)); exact BK236.out⟩, ⟨by (with_reducible repeat (first | refine blk_drewN ?_ _ | refine blk_drew ?_ | refine blk_alloc ?_ _)); exact BK252.out⟩, ⟨by (with_reducible repeat (first | refine blk_drewN ?_ _ | refine blk_drew ?_ | refine blk_alloc ?_ _)); exact BK258.out⟩, ⟨by (with_reducible repeat (first | refine blk_drewN ?_ _ | refine blk_drew ?_ | refine blk_alloc ?_ _)); exact BK268.out⟩, ⟨by repeat (first | (with_reducible first | exact HB.out | apply below_alloc | apply pw_below_drewN | apply below_drew1 | refine below_set ?_ GE236.out | refine below_set ?_ GE252.out | refine below_set ?_ GE258.out | refine below_set ?_ GE268.out) | exact HB.out)⟩⟩
      case rest =>
        clear HC16
        try clear c1
        try clear c2
        try clear p2
        try clear c3
        try clear c3b0
        try clear c3b1
        try clear c4
        try clear c5
        try clear c6
        try clear c6b0
        try clear c11
        try clear c12
        try clear c14
        try clear c17
        try clear c27
        try clear c33
        try clear c34
        try clear c38
        try clear c40
        try clear c41
        try clear c42
        try clear c43
        try clear c44
        try clear c48
        try clear c49
        try clear c50
        try clear c51
        try clear c53
        try clear c54
        try clear c57
        try clear c58
        try clear c59
        try clear c61
        try clear c62
        try clear hcz18_0
        try clear hcz18_1
        try clear hcz18_2
        try clear hcz20_0
        try clear hcz20_1
        try clear hcz20_2
        try clear hcz28_0
        try clear hcz28_1
        try clear hcz28_2
        try clear hcz30_0
        try clear hcz30_1
        try clear hcz30_2
        try clear hcz35_0
        try clear hcz35_1
        try clear hcz35_2
        try clear hcz38_0
        try clear hcz38_1
        try clear hcz38_2
        try clear hcz45_0
        try clear hcz45_1
        try clear hcz45_2
        try clear hcz52_0
        try clear hcz52_1
        try clear hcz52_2
        try clear hcz55_0
        try clear hcz55_1
        try clear hcz55_2
        try clear hcz60_0
        try clear hcz60_1
        try clear hcz60_2
        try clear hcz63_0
        try clear hcz63_1
        try clear hcz63_2
        try clear hcz8_0
        try clear hcz8_1
        try clear hcz8_2
        try clear hfz18_0
        try clear hfz18_1
        try clear hfz18_2
        try clear hfz20_0
        try clear hfz20_1
        try clear hfz20_2
        try clear hfz28_0
        try clear hfz28_1
        try clear hfz28_2
        try clear hfz30_0
        try clear hfz30_1
        try clear hfz30_2
        try clear hfz35_0
        try clear hfz35_1
        try clear hfz35_2
        try clear hfz38_0
        try clear hfz38_1
        try clear hfz38_2
        try clear hfz45_0
        try clear hfz45_1
        try clear hfz45_2
        try clear hfz52_0
        try clear hfz52_1
        try clear hfz52_2
        try clear hfz55_0
        try clear hfz55_1
        try clear hfz55_2
        try clear hfz60_0
        try clear hfz60_1
        try clear hfz60_2
        try clear hfz63_0
        try clear hfz63_1
        try clear hfz63_2
        try clear hfz8_0
        try clear hfz8_1
        try clear hfz8_2
        obtain ⟨kq, x51_15, rfl, HA, HJ15, HO_9, HO_253002, HO_259002, HO_269002, BK236, BK252, BK258, BK268, HB⟩ := hcut
        cases kq with
        | zero => exact absurd HA.out (by simp [laws_FnExactCoverOf.j0])
        | succ kj15 =>
          have H := HA.out
          clear HA
          simp only [laws_FnExactCoverOf.j0] at H
          by_cases c65 : x51_15 = true
          · subst c65
            have H1 : (some false) = some true := by first | exact rfl | (rw [if_pos rfl] at H; exact H)
            clear H
            have H := H1
            clear H1
            exact absurd H (by decide)
          · replace c65 := Bool.eq_false_iff.mpr c65
            subst c65
            have H1 : ((laws_toTable.f kj15 a0_0 a0_1 l0_2).bind fun bt270 => ((laws_eqTable.f kj15 t253 t254 t255 bt270.1 bt270.2.1 bt270.2.2).bind fun t275 => (if t275 = true then ((laws_toIntS.f kj15 l1).bind fun t276 => ((laws_eqIntS.f kj15 t259 t276).bind fun t279 => (if t279 = true then ((laws_markTable.f kj15 t253 t254 t255 1).bind fun bt280 => ((laws_markIntS.f kj15 t259 bt280.1).bind fun bt282 => (if bt282.1 < 0 then (laws_FnExactCoverOf.j1 kj15 l1 t251 true a0_0 a0_1 l0_2 t246 t247 t248 t262 t263 t264) else ((laws_eqTable.f kj15 t262 t263 t264 t246 t247 t248).bind fun t284 => (if t284 = true then (laws_FnExactCoverOf.j1 kj15 l1 t251 (t267 != t251) a0_0 a0_1 l0_2 t246 t247 t248 t262 t263 t264) else (laws_FnExactCoverOf.j1 kj15 l1 t251 true a0_0 a0_1 l0_2 t246 t247 t248 t262 t263 t264)))))) else (some false)))) else (some false)))) = some true := by first | exact rfl | (rw [if_neg (show ¬ (false = true) by decide)] at H; exact H)
            clear H
            have H := H1
            clear H1
            replace H := Option.bind_eq_some_iff.mp H
            obtain ⟨⟨t270, t271, t272⟩, A660, H⟩ := H
            replace H : ((laws_eqTable.f kj15 t253 t254 t255 t270 t271 t272).bind fun t275 => (if t275 = true then ((laws_toIntS.f kj15 l1).bind fun t276 => ((laws_eqIntS.f kj15 t259 t276).bind fun t279 => (if t279 = true then ((laws_markTable.f kj15 t253 t254 t255 1).bind fun bt280 => ((laws_markIntS.f kj15 t259 bt280.1).bind fun bt282 => (if bt282.1 < 0 then (laws_FnExactCoverOf.j1 kj15 l1 t251 true a0_0 a0_1 l0_2 t246 t247 t248 t262 t263 t264) else ((laws_eqTable.f kj15 t262 t263 t264 t246 t247 t248).bind fun t284 => (if t284 = true then (laws_FnExactCoverOf.j1 kj15 l1 t251 (t267 != t251) a0_0 a0_1 l0_2 t246 t247 t248 t262 t263 t264) else (laws_FnExactCoverOf.j1 kj15 l1 t251 true a0_0 a0_1 l0_2 t246 t247 t248 t262 t263 t264)))))) else (some false)))) else (some false))) = some true := H
            have A66 := Aside0.mk A660
            clear A660
            replace H := Option.bind_eq_some_iff.mp H
            obtain ⟨t275, A670, H⟩ := H
            replace H : (if t275 = true then ((laws_toIntS.f kj15 l1).bind fun t276 => ((laws_eqIntS.f kj15 t259 t276).bind fun t279 => (if t279 = true then ((laws_markTable.f kj15 t253 t254 t255 1).bind fun bt280 => ((laws_markIntS.f kj15 t259 bt280.1).bind fun bt282 => (if bt282.1 < 0 then (laws_FnExactCoverOf.j1 kj15 l1 t251 true a0_0 a0_1 l0_2 t246 t247 t248 t262 t263 t264) else ((laws_eqTable.f kj15 t262 t263 t264 t246 t247 t248).bind fun t284 => (if t284 = true then (laws_FnExactCoverOf.j1 kj15 l1 t251 (t267 != t251) a0_0 a0_1 l0_2 t246 t247 t248 t262 t263 t264) else (laws_FnExactCoverOf.j1 kj15 l1 t251 true a0_0 a0_1 l0_2 t246 t247 t248 t262 t263 t264)))))) else (some false)))) else (some false)) = some true := H
            have A67 := Aside0.mk A670
            clear A670
            by_cases c68 : t275 = true
            · subst c68
              have H1 : ((laws_toIntS.f kj15 l1).bind fun t276 => ((laws_eqIntS.f kj15 t259 t276).bind fun t279 => (if t279 = true then ((laws_markTable.f kj15 t253 t254 t255 1).bind fun bt280 => ((laws_markIntS.f kj15 t259 bt280.1).bind fun bt282 => (if bt282.1 < 0 then (laws_FnExactCoverOf.j1 kj15 l1 t251 true a0_0 a0_1 l0_2 t246 t247 t248 t262 t263 t264) else ((laws_eqTable.f kj15 t262 t263 t264 t246 t247 t248).bind fun t284 => (if t284 = true then (laws_FnExactCoverOf.j1 kj15 l1 t251 (t267 != t251) a0_0 a0_1 l0_2 t246 t247 t248 t262 t263 t264) else (laws_FnExactCoverOf.j1 kj15 l1 t251 true a0_0 a0_1 l0_2 t246 t247 t248 t262 t263 t264)))))) else (some false)))) = some true := by first | exact rfl | (rw [if_pos rfl] at H; exact H)
              clear H
              have H := H1
              clear H1
              replace H := Option.bind_eq_some_iff.mp H
              obtain ⟨t276, A690, H⟩ := H
              replace H : ((laws_eqIntS.f kj15 t259 t276).bind fun t279 => (if t279 = true then ((laws_markTable.f kj15 t253 t254 t255 1).bind fun bt280 => ((laws_markIntS.f kj15 t259 bt280.1).bind fun bt282 => (if bt282.1 < 0 then (laws_FnExactCoverOf.j1 kj15 l1 t251 true a0_0 a0_1 l0_2 t246 t247 t248 t262 t263 t264) else ((laws_eqTable.f kj15 t262 t263 t264 t246 t247 t248).bind fun t284 => (if t284 = true then (laws_FnExactCoverOf.j1 kj15 l1 t251 (t267 != t251) a0_0 a0_1 l0_2 t246 t247 t248 t262 t263 t264) else (laws_FnExactCoverOf.j1 kj15 l1 t251 true a0_0 a0_1 l0_2 t246 t247 t248 t262 t263 t264)))))) else (some false))) = some true := H
              have A69 := Aside0.mk A690
              clear A690
              replace H := Option.bind_eq_some_iff.mp H
              obtain ⟨t279, A700, H⟩ := H
              replace H : (if t279 = true then ((laws_markTable.f kj15 t253 t254 t255 1).bind fun bt280 => ((laws_markIntS.f kj15 t259 bt280.1).bind fun bt282 => (if bt282.1 < 0 then (laws_FnExactCoverOf.j1 kj15 l1 t251 true a0_0 a0_1 l0_2 t246 t247 t248 t262 t263 t264) else ((laws_eqTable.f kj15 t262 t263 t264 t246 t247 t248).bind fun t284 => (if t284 = true then (laws_FnExactCoverOf.j1 kj15 l1 t251 (t267 != t251) a0_0 a0_1 l0_2 t246 t247 t248 t262 t263 t264) else (laws_FnExactCoverOf.j1 kj15 l1 t251 true a0_0 a0_1 l0_2 t246 t247 t248 t262 t263 t264)))))) else (some false)) = some true := H
              have A70 := Aside0.mk A700
              clear A700
              by_cases c71 : t279 = true
              · subst c71
                have H1 : ((laws_markTable.f kj15 t253 t254 t255 1).bind fun bt280 => ((laws_markIntS.f kj15 t259 bt280.1).bind fun bt282 => (if bt282.1 < 0 then (laws_FnExactCoverOf.j1 kj15 l1 t251 true a0_0 a0_1 l0_2 t246 t247 t248 t262 t263 t264) else ((laws_eqTable.f kj15 t262 t263 t264 t246 t247 t248).bind fun t284 => (if t284 = true then (laws_FnExactCoverOf.j1 kj15 l1 t251 (t267 != t251) a0_0 a0_1 l0_2 t246 t247 t248 t262 t263 t264) else (laws_FnExactCoverOf.j1 kj15 l1 t251 true a0_0 a0_1 l0_2 t246 t247 t248 t262 t263 t264)))))) = some true := by first | exact rfl | (rw [if_pos rfl] at H; exact H)
                clear H
                have H := H1
                clear H1
                replace H := Option.bind_eq_some_iff.mp H
                obtain ⟨⟨t280, t281⟩, A720, H⟩ := H
                replace H : ((laws_markIntS.f kj15 t259 t280).bind fun bt282 => (if bt282.1 < 0 then (laws_FnExactCoverOf.j1 kj15 l1 t251 true a0_0 a0_1 l0_2 t246 t247 t248 t262 t263 t264) else ((laws_eqTable.f kj15 t262 t263 t264 t246 t247 t248).bind fun t284 => (if t284 = true then (laws_FnExactCoverOf.j1 kj15 l1 t251 (t267 != t251) a0_0 a0_1 l0_2 t246 t247 t248 t262 t263 t264) else (laws_FnExactCoverOf.j1 kj15 l1 t251 true a0_0 a0_1 l0_2 t246 t247 t248 t262 t263 t264))))) = some true := H
                have A72 := Aside0.mk A720
                clear A720
                replace H := Option.bind_eq_some_iff.mp H
                obtain ⟨⟨t282, t283⟩, A730, H⟩ := H
                replace H : (if t282 < 0 then (laws_FnExactCoverOf.j1 kj15 l1 t251 true a0_0 a0_1 l0_2 t246 t247 t248 t262 t263 t264) else ((laws_eqTable.f kj15 t262 t263 t264 t246 t247 t248).bind fun t284 => (if t284 = true then (laws_FnExactCoverOf.j1 kj15 l1 t251 (t267 != t251) a0_0 a0_1 l0_2 t246 t247 t248 t262 t263 t264) else (laws_FnExactCoverOf.j1 kj15 l1 t251 true a0_0 a0_1 l0_2 t246 t247 t248 t262 t263 t264)))) = some true := H
                have A73 := Aside0.mk A730
                clear A730
                have HC74 := Aside0.mk H
                clear H
                try go_wp2
                have n0_ := Aside0.mk (Kd.R_drew HO_9.out)
                have n1_ := Aside0.mk (Kd.R_drew HO_253002.out)
                have n2_ := Aside0.mk (Kd.R_drew HO_259002.out)
                have n3_ := Aside0.mk (Kd.R_drew HO_269002.out)
                have n4_ := Aside0.mk (blk_drew BK236.out)
                have n5_ := Aside0.mk (blk_drew BK252.out)
                have n6_ := Aside0.mk (blk_drew BK258.out)
                have n7_ := Aside0.mk (blk_drew BK268.out)
                have n8_ := Aside0.mk (below_drew1 HB.out)
                clear HO_9
                clear HO_253002
                clear HO_259002
                clear HO_269002
                clear BK236
                clear BK252
                clear BK258
                clear BK268
                clear HB
                have HO_9 := n0_
                have HO_253002 := n1_
                have HO_259002 := n2_
                have HO_269002 := n3_
                have BK236 := n4_
                have BK252 := n5_
                have BK258 := n6_
                have BK268 := n7_
                have HB := n8_
                clear n0_ n1_ n2_ n3_ n4_ n5_ n6_ n7_ n8_
                refine start_ (n := 5) (S := fun w' => w'.cell? ⟨gb258, 0, none⟩ = some (.int .i64 t253) ∧ w'.cell? ⟨gb258, 1, none⟩ = some (.int .i64 t254) ∧ w'.cell? ⟨gb258, 2, none⟩ = some (.slice Ao36 t255.length co36) ∧ w'.cell? ⟨gb236, 0, none⟩ = some (.int .i64 a0_0) ∧ w'.cell? ⟨gb236, 1, none⟩ = some (.int .i64 a0_1) ∧ w'.cell? ⟨gb236, 2, none⟩ = some (.slice A0_2 l0_2.length c0_2)) (ds := []) #[false, false, false, false, false] (by kernel_rfl) rfl rfl ⟨(blk_cell BK258.out 0).trans rfl, (blk_cell BK258.out 1).trans rfl, (blk_cell BK258.out 2).trans rfl, (blk_cell BK236.out 0).trans rfl, (blk_cell BK236.out 1).trans rfl, (blk_cell BK236.out 2).trans rfl⟩ (fun hHeld => ?_)
                generalize wc.drew = w75 at HO_9 HO_253002 HO_259002 HO_269002 BK236 BK252 BK258 BK268 HB hHeld ⊢
                refine take_ (i := 0) (N := some 52) (v := ?_) (a' := ?_) #[true, false, false, false, false] rfl rfl (by kernel_rfl) (fun _ _ _ h => h) (Or.inl ⟨by rfl, ?_⟩) hHeld ?_ ?_
                rotate_left
                · rintro w' ⟨s0, s1, s2, s3, s4, s5⟩
                  go_simp
                  with_reducible rfl
                rotate_left
                · simp only [Act.put, List.setIfInBounds_toArray, List.set_cons_zero, List.set_cons_succ, i64_w, i32_w]
                  rfl
                refine take_ (i := 1) (N := some 53) (v := ?_) (a' := ?_) #[true, true, false, false, false] rfl rfl (by kernel_rfl) (fun _ _ _ h => h) (Or.inl ⟨by rfl, ?_⟩) hHeld ?_ ?_
                rotate_left
                · rintro w' ⟨s0, s1, s2, s3, s4, s5⟩
                  go_simp
                  with_reducible rfl
                rotate_left
                · simp only [Act.put, List.setIfInBounds_toArray, List.set_cons_zero, List.set_cons_succ, i64_w, i32_w]
                  rfl
                refine one_ (i := 2) (N := some 54) #[true, true, true, false, false] rfl rfl (by kernel_rfl) (by decide) (fun K hK => ?_)
                refine goes_ Try.func14 (by kernel_rfl) rfl #[.agg #[.int .i64 a0_0, .int .i64 a0_1, .slice A0_2 l0_2.length c0_2]] (by rfl) rfl rfl (by (try simp only [List.map_toArray, List.map_cons, List.map_nil]); first | done | rfl | (simp only [List.length_drop, List.length_take]; rfl)) ?_
                with_reducible refine (laws_toTable.calls kj15 a0_0 a0_1 _ _ l0_2 t270 t271 t272 _ ?side1 ?side2 A66.out).mono ?_
                (case side1 => repeat (first | exact (Kd.C_below HR0_2.out HB.out) | (with_reducible refine Kd.C_alloc ?_ _) | (with_reducible refine Kd.C_drewN ?_ _) | (with_reducible refine Kd.C_drew ?_)))
                (case side2 => exact HC0_2.out)
                rintro e w76 ⟨v273, rfl, ho0, hb⟩
                refine ⟨_, rfl, ?_⟩
                have n0_ := Aside0.mk (Kd.R_elder' (by (with_reducible repeat (first | apply Kd.R_alloc | apply Kd.R_drewN | apply Kd.R_drew)); exact HO_9.out) (Kd.R_base ho0) hb)
                have n1_ := Aside0.mk (Kd.R_elder' (by (with_reducible repeat (first | apply Kd.R_alloc | apply Kd.R_drewN | apply Kd.R_drew)); exact HO_253002.out) (Kd.R_base ho0) hb)
                have n2_ := Aside0.mk (Kd.R_elder' (by (with_reducible repeat (first | apply Kd.R_alloc | apply Kd.R_drewN | apply Kd.R_drew)); exact HO_259002.out) (Kd.R_base ho0) hb)
                have n3_ := Aside0.mk (Kd.R_elder' (by (with_reducible repeat (first | apply Kd.R_alloc | apply Kd.R_drewN | apply Kd.R_drew)); exact HO_269002.out) (Kd.R_base ho0) hb)
                have n4_ := Aside0.mk (Kd.R_lower (Kd.R_new' (Kd.R_new' (Kd.R_new' (Kd.R_new' ho0 (Kd.R_lt (by (with_reducible repeat (first | apply Kd.R_alloc | apply Kd.R_drewN | apply Kd.R_drew)); exact HO_9.out))) (Kd.R_lt (by (with_reducible repeat (first | apply Kd.R_alloc | apply Kd.R_drewN | apply Kd.R_drew)); exact HO_253002.out))) (Kd.R_lt (by (with_reducible repeat (first | apply Kd.R_alloc | apply Kd.R_drewN | apply Kd.R_drew)); exact HO_259002.out))) (Kd.R_lt (by (with_reducible repeat (first | apply Kd.R_alloc | apply Kd.R_drewN | apply Kd.R_drew)); exact HO_269002.out))) (below_size (by repeat (first | (with_reducible first | exact HB.out | apply below_alloc | apply pw_below_drewN | apply below_drew1 | refine below_set ?_ GE236.out | refine below_set ?_ GE252.out | refine below_set ?_ GE258.out | refine below_set ?_ GE268.out) | exact HB.out))))
                have n5_ := Aside0.mk (blk_below (g := gb236) (o := .cells #[.int .i64 a0_0, .int .i64 a0_1, .slice A0_2 l0_2.length c0_2] 24 (0, 0)) (by (with_reducible repeat (first | refine blk_drewN ?_ _ | refine blk_drew ?_ | refine blk_alloc ?_ _)); exact BK236.out) hb)
                have n6_ := Aside0.mk (blk_below (g := gb252) (o := .cells #[.int .i64 t246, .int .i64 t247, .slice Ao29 t248.length co29] 28 (0, 0)) (by (with_reducible repeat (first | refine blk_drewN ?_ _ | refine blk_drew ?_ | refine blk_alloc ?_ _)); exact BK252.out) hb)
                have n7_ := Aside0.mk (blk_below (g := gb258) (o := .cells #[.int .i64 t253, .int .i64 t254, .slice Ao36 t255.length co36] 28 (0, 0)) (by (with_reducible repeat (first | refine blk_drewN ?_ _ | refine blk_drew ?_ | refine blk_alloc ?_ _)); exact BK258.out) hb)
                have n8_ := Aside0.mk (blk_below (g := gb268) (o := .cells #[.int .i64 t262, .int .i64 t263, .slice Ao46 t264.length co46] 28 (0, 0)) (by (with_reducible repeat (first | refine blk_drewN ?_ _ | refine blk_drew ?_ | refine blk_alloc ?_ _)); exact BK268.out) hb)
                have n9_ := Aside0.mk (below_step (by repeat (first | (with_reducible first | exact HB.out | apply below_alloc | apply pw_below_drewN | apply below_drew1 | refine below_set ?_ GE236.out | refine below_set ?_ GE252.out | refine below_set ?_ GE258.out | refine below_set ?_ GE268.out) | exact HB.out)) hb)
                clear HO_9
                clear HO_253002
                clear HO_259002
                clear HO_269002
                clear BK236
                clear BK252
                clear BK258
                clear BK268
                clear HB
                have HO_9 := n0_
                have HO_253002 := n1_
                have HO_259002 := n2_
                have HO_269002 := n3_
                have HO274 := n4_
                have BK236 := n5_
                have BK252 := n6_
                have BK258 := n7_
                have BK268 := n8_
                have HB := n9_
                clear n0_ n1_ n2_ n3_ n4_ n5_ n6_ n7_ n8_ n9_
                (try clear hb)
                (try clear hb2)
                (try clear hk)
                (try clear hi)
                (try clear ho0)
                obtain ⟨Ao77, co77, eo77⟩ := Kd.R_slice HO274.out
                (first | subst eo77 | (injection eo77 with f1_ f2_ f3_; have f4_ := f1_.symm; have f5_ := f3_.symm; clear f1_ f2_ f3_; subst f4_; subst f5_))
                refine hK.out _ _ ⟨(blk_cell BK258.out 0).trans rfl, (blk_cell BK258.out 1).trans rfl, (blk_cell BK258.out 2).trans rfl, (blk_cell BK236.out 0).trans rfl, (blk_cell BK236.out 1).trans rfl, (blk_cell BK236.out 2).trans rfl⟩ (fun hHeld => ?_)
                clear hK K
                refine norm_ (a' := ?_) ?_ ?_
                rotate_left
                · show Act.put _ (some 54) _ = _
                  simp only [Act.put, List.setIfInBounds_toArray, List.set_cons_zero, List.set_cons_succ, i64_w, i32_w]
                  rfl
                refine one_ (i := 3) (N := some 55) #[true, true, true, true, false] rfl rfl (by kernel_rfl) (by decide) (fun K hK => ?_)
                refine goes_ Try.func17 (by kernel_rfl) rfl #[.agg #[.int .i64 t253, .int .i64 t254, .slice Ao36 t255.length co36], .agg #[.int .i64 t270, .int .i64 t271, .slice Ao77 t272.length co77]] (by rfl) rfl rfl (by (try simp only [List.map_toArray, List.map_cons, List.map_nil]); first | done | rfl | (simp only [List.length_drop, List.length_take]; rfl)) ?_
                with_reducible refine (laws_eqTable.calls kj15 t253 t254 _ _ t255 t270 t271 _ _ t272 true _ ?side1 ?side2 ?side3 ?side4 A67.out).mono ?_
                (case side1 => repeat (first | exact (Kd.R_reads' HO_259002.out).2.2 | (with_reducible refine Kd.C_alloc ?_ _) | (with_reducible refine Kd.C_drewN ?_ _) | (with_reducible refine Kd.C_drew ?_)))
                (case side2 => exact (Kd.R_reads' HO_259002.out).2.1)
                (case side3 => repeat (first | exact (Kd.R_reads' HO274.out).2.2 | (with_reducible refine Kd.C_alloc ?_ _) | (with_reducible refine Kd.C_drewN ?_ _) | (with_reducible refine Kd.C_drew ?_)))
                (case side4 => exact (Kd.R_reads' HO274.out).2.1)
                rintro e w78 ⟨rfl, hb⟩
                refine ⟨_, rfl, ?_⟩
                have n0_ := Aside0.mk (Kd.R_below (by (with_reducible repeat (first | apply Kd.R_alloc | apply Kd.R_drewN | apply Kd.R_drew)); exact HO_9.out) hb)
                have n1_ := Aside0.mk (Kd.R_below (by (with_reducible repeat (first | apply Kd.R_alloc | apply Kd.R_drewN | apply Kd.R_drew)); exact HO_253002.out) hb)
                have n2_ := Aside0.mk (Kd.R_below (by (with_reducible repeat (first | apply Kd.R_alloc | apply Kd.R_drewN | apply Kd.R_drew)); exact HO_259002.out) hb)
                have n3_ := Aside0.mk (Kd.R_below (by (with_reducible repeat (first | apply Kd.R_alloc | apply Kd.R_drewN | apply Kd.R_drew)); exact HO_269002.out) hb)
                have n4_ := Aside0.mk (Kd.R_below (by (with_reducible repeat (first | apply Kd.R_alloc | apply Kd.R_drewN | apply Kd.R_drew)); exact HO274.out) hb)
                have n5_ := Aside0.mk (blk_below (g := gb236) (o := .cells #[.int .i64 a0_0, .int .i64 a0_1, .slice A0_2 l0_2.length c0_2] 24 (0, 0)) (by (with_reducible repeat (first | refine blk_drewN ?_ _ | refine blk_drew ?_ | refine blk_alloc ?_ _)); exact BK236.out) hb)
                have n6_ := Aside0.mk (blk_below (g := gb252) (o := .cells #[.int .i64 t246, .int .i64 t247, .slice Ao29 t248.length co29] 28 (0, 0)) (by (with_reducible repeat (first | refine blk_drewN ?_ _ | refine blk_drew ?_ | refine blk_alloc ?_ _)); exact BK252.out) hb)
                have n7_ := Aside0.mk (blk_below (g := gb258) (o := .cells #[.int .i64 t253, .int .i64 t254, .slice Ao36 t255.length co36] 28 (0, 0)) (by (with_reducible repeat (first | refine blk_drewN ?_ _ | refine blk_drew ?_ | refine blk_alloc ?_ _)); exact BK258.out) hb)
                have n8_ := Aside0.mk (blk_below (g := gb268) (o := .cells #[.int .i64 t262, .int .i64 t263, .slice Ao46 t264.length co46] 28 (0, 0)) (by (with_reducible repeat (first | refine blk_drewN ?_ _ | refine blk_drew ?_ | refine blk_alloc ?_ _)); exact BK268.out) hb)
                have n9_ := Aside0.mk (below_step (by repeat (first | (with_reducible first | exact HB.out | apply below_alloc | apply pw_below_drewN | apply below_drew1 | refine below_set ?_ GE236.out | refine below_set ?_ GE252.out | refine below_set ?_ GE258.out | refine below_set ?_ GE268.out) | exact HB.out)) hb)
                clear HO_9
                clear HO_253002
                clear HO_259002
                clear HO_269002
                clear HO274
                clear BK236
                clear BK252
                clear BK258
                clear BK268
                clear HB
                have HO_9 := n0_
                have HO_253002 := n1_
                have HO_259002 := n2_
                have HO_269002 := n3_
                have HO274 := n4_
                have BK236 := n5_
                have BK252 := n6_
                have BK258 := n7_
                have BK268 := n8_
                have HB := n9_
                clear n0_ n1_ n2_ n3_ n4_ n5_ n6_ n7_ n8_ n9_
                (try clear hb)
                (try clear hb2)
                (try clear hk)
                (try clear hi)
                refine hK.out _ _ ⟨(blk_cell BK258.out 0).trans rfl, (blk_cell BK258.out 1).trans rfl, (blk_cell BK258.out 2).trans rfl, (blk_cell BK236.out 0).trans rfl, (blk_cell BK236.out 1).trans rfl, (blk_cell BK236.out 2).trans rfl⟩ (fun hHeld => ?_)
                clear hK K
                refine norm_ (a' := ?_) ?_ ?_
                rotate_left
                · show Act.put _ (some 55) _ = _
                  simp only [Act.put, List.setIfInBounds_toArray, List.set_cons_zero, List.set_cons_succ, i64_w, i32_w]
                  rfl
                refine pure_ (i := 4) (N := some 56) (v := ?_) (a' := ?_) #[true, true, true, true, true] rfl rfl (by kernel_rfl) (fun _ _ _ h => h) (Or.inl ⟨by rfl, ?_⟩) ?_ ?_
                rotate_left
                · intro w'
                  go_simp
                  with_reducible rfl
                rotate_left
                · simp only [Act.put, List.setIfInBounds_toArray, List.set_cons_zero, List.set_cons_succ, i64_w, i32_w]
                  rfl
                refine done_ (by kernel_rfl) ?_
                go_upto_region 20 with (first | ((with_reducible refine gate_callee (f := 38) rfl ?_); refine goesL_ (some 59) rfl rfl Try.func38 (by kernel_rfl) rfl #[.slice A1 l1.length c1] rfl (by (try simp only [List.map_toArray, List.map_cons, List.map_nil]); first | done | rfl | (simp only [List.length_drop, List.length_take]; rfl)) ?_; (with_reducible refine (laws_toIntS.calls kj15 _ _ l1 t276 _ ?side1 ?side2 A69.out).mono ?_); (case side1 => repeat (first | exact (Kd.C_below HR1.out HB.out) | (with_reducible refine Kd.C_alloc ?_ _) | (with_reducible refine Kd.C_drewN ?_ _) | (with_reducible refine Kd.C_drew ?_))); (case side2 => exact HC1.out); rintro e w79 ⟨v277, rfl, ho0, hb⟩; refine ⟨_, rfl, ?_⟩; have n0_ := Aside0.mk (Kd.R_elder' (by (with_reducible repeat (first | apply Kd.R_alloc | apply Kd.R_drewN | apply Kd.R_drew)); exact HO_9.out) (Kd.R_base ho0) hb); have n1_ := Aside0.mk (Kd.R_elder' (by (with_reducible repeat (first | apply Kd.R_alloc | apply Kd.R_drewN | apply Kd.R_drew)); exact HO_253002.out) (Kd.R_base ho0) hb); have n2_ := Aside0.mk (Kd.R_elder' (by (with_reducible repeat (first | apply Kd.R_alloc | apply Kd.R_drewN | apply Kd.R_drew)); exact HO_259002.out) (Kd.R_base ho0) hb); have n3_ := Aside0.mk (Kd.R_elder' (by (with_reducible repeat (first | apply Kd.R_alloc | apply Kd.R_drewN | apply Kd.R_drew)); exact HO_269002.out) (Kd.R_base ho0) hb); have n4_ := Aside0.mk (Kd.R_elder' (by (with_reducible repeat (first | apply Kd.R_alloc | apply Kd.R_drewN | apply Kd.R_drew)); exact HO274.out) (Kd.R_base ho0) hb); have n5_ := Aside0.mk (Kd.R_lower (Kd.R_new' (Kd.R_new' (Kd.R_new' (Kd.R_new' (Kd.R_new' ho0 (Kd.R_lt (by (with_reducible repeat (first | apply Kd.R_alloc | apply Kd.R_drewN | apply Kd.R_drew)); exact HO_9.out))) (Kd.R_lt (by (with_reducible repeat (first | apply Kd.R_alloc | apply Kd.R_drewN | apply Kd.R_drew)); exact HO_253002.out))) (Kd.R_lt (by (with_reducible repeat (first | apply Kd.R_alloc | apply Kd.R_drewN | apply Kd.R_drew)); exact HO_259002.out))) (Kd.R_lt (by (with_reducible repeat (first | apply Kd.R_alloc | apply Kd.R_drewN | apply Kd.R_drew)); exact HO_269002.out))) (Kd.R_lt (by (with_reducible repeat (first | apply Kd.R_alloc | apply Kd.R_drewN | apply Kd.R_drew)); exact HO274.out))) (below_size (by repeat (first | (with_reducible first | exact HB.out | apply below_alloc | apply pw_below_drewN | apply below_drew1 | refine below_set ?_ GE236.out | refine below_set ?_ GE252.out | refine below_set ?_ GE258.out | refine below_set ?_ GE268.out) | exact HB.out)))); have n6_ := Aside0.mk (blk_below (g := gb236) (o := .cells #[.int .i64 a0_0, .int .i64 a0_1, .slice A0_2 l0_2.length c0_2] 24 (0, 0)) (by (with_reducible repeat (first | refine blk_drewN ?_ _ | refine blk_drew ?_ | refine blk_alloc ?_ _)); exact BK236.out) hb); have n7_ := Aside0.mk (blk_below (g := gb252) (o := .cells #[.int .i64 t246, .int .i64 t247, .slice Ao29 t248.length co29] 28 (0, 0)) (by (with_reducible repeat (first | refine blk_drewN ?_ _ | refine blk_drew ?_ | refine blk_alloc ?_ _)); exact BK252.out) hb); have n8_ := Aside0.mk (blk_below (g := gb258) (o := .cells #[.int .i64 t253, .int .i64 t254, .slice Ao36 t255.length co36] 28 (0, 0)) (by (with_reducible repeat (first | refine blk_drewN ?_ _ | refine blk_drew ?_ | refine blk_alloc ?_ _)); exact BK258.out) hb); have n9_ := Aside0.mk (blk_below (g := gb268) (o := .cells #[.int .i64 t262, .int .i64 t263, .slice Ao46 t264.length co46] 28 (0, 0)) (by (with_reducible repeat (first | refine blk_drewN ?_ _ | refine blk_drew ?_ | refine blk_alloc ?_ _)); exact BK268.out) hb); have n10_ := Aside0.mk (below_step (by repeat (first | (with_reducible first | exact HB.out | apply below_alloc | apply pw_below_drewN | apply below_drew1 | refine below_set ?_ GE236.out | refine below_set ?_ GE252.out | refine below_set ?_ GE258.out | refine below_set ?_ GE268.out) | exact HB.out)) hb); clear HO_9; clear HO_253002; clear HO_259002; clear HO_269002; clear HO274; clear BK236; clear BK252; clear BK258; clear BK268; clear HB; have HO_9 := n0_; have HO_253002 := n1_; have HO_259002 := n2_; have HO_269002 := n3_; have HO274 := n4_; have HO278 := n5_; have BK236 := n6_; have BK252 := n7_; have BK258 := n8_; have BK268 := n9_; have HB := n10_; clear n0_ n1_ n2_ n3_ n4_ n5_ n6_ n7_ n8_ n9_ n10_; (try clear hb); (try clear hb2); (try clear hk); (try clear hi); (try clear ho0); obtain ⟨Ao80, co80, eo80⟩ := Kd.R_slice HO278.out; subst eo80) | ((with_reducible refine gate_callee (f := 16) rfl ?_); refine goesL_ (some 60) rfl rfl Try.func16 (by kernel_rfl) rfl #[.slice Ao39 t259.length co39, .slice Ao80 t276.length co80] rfl (by (try simp only [List.map_toArray, List.map_cons, List.map_nil]); first | done | rfl | (simp only [List.length_drop, List.length_take]; rfl)) ?_; (with_reducible refine (laws_eqIntS.calls kj15 _ _ t259 _ _ t276 true _ ?side1 ?side2 ?side3 ?side4 A70.out).mono ?_); (case side1 => repeat (first | exact (Kd.R_reads' HO_9.out).2.2 | (with_reducible refine Kd.C_alloc ?_ _) | (with_reducible refine Kd.C_drewN ?_ _) | (with_reducible refine Kd.C_drew ?_))); (case side2 => exact (Kd.R_reads' HO_9.out).2.1); (case side3 => repeat (first | exact (Kd.R_reads' HO278.out).2.2 | (with_reducible refine Kd.C_alloc ?_ _) | (with_reducible refine Kd.C_drewN ?_ _) | (with_reducible refine Kd.C_drew ?_))); (case side4 => exact (Kd.R_reads' HO278.out).2.1); rintro e w' ⟨rfl, ⟨nd, rfl⟩⟩; refine ⟨_, rfl, ?_⟩; have hnb81 := NB258_236.out; have hnc81 := NB236_258.out; have hnb82 := NB258_252.out; have hnc82 := NB252_258.out; have hnb83 := NB258_268.out; have hnc83 := NB268_258.out; have hcz84_0 : w79.cell? ⟨gb258, 0, none⟩ = some (.int .i64 t253) := (blk_cell BK258.out 0).trans rfl; have hcz84_1 : w79.cell? ⟨gb258, 1, none⟩ = some (.int .i64 t254) := (blk_cell BK258.out 1).trans rfl; have hcz84_2 : w79.cell? ⟨gb258, 2, none⟩ = some (.slice Ao36 t255.length co36) := (blk_cell BK258.out 2).trans rfl; have hfz84_0 := blk_frozen BK258.out 0; have hfz84_1 := blk_frozen BK258.out 1; have hfz84_2 := blk_frozen BK258.out 2) | ((with_reducible refine gate_callee (f := 18) rfl ?_); refine goesL_ (some 64) rfl rfl Try.func18 (by kernel_rfl) rfl #[.agg #[.int .i64 t253, .int .i64 t254, .slice Ao36 t255.length co36], .int .i64 1] rfl (by (try simp only [List.map_toArray, List.map_cons, List.map_nil]); first | done | rfl | (simp only [List.length_drop, List.length_take]; rfl)) ?_; (with_reducible refine (laws_markTable.calls kj15 t253 t254 (fun k_ => some k_ = (.slice Ao36 t255.length co36 : Value).ownBlock) (.slice Ao36 t255.length co36) t255 1 t280 t281 w _ ?side1 ?side2 A72.out).mono ?_); (case side1 => repeat (first | (with_reducible first | exact HB.out | apply below_alloc | apply pw_below_drewN | apply below_drew1 | refine below_set ?_ GE236.out | refine below_set ?_ GE252.out | refine below_set ?_ GE258.out | refine below_set ?_ GE268.out) | exact HB.out)); (case side2 => exact Kd.R_tight rfl HO_259002.out); rintro e w85 ⟨rfl, hy0, hb, hkp⟩; refine ⟨_, rfl, ?_⟩; have n0_ := Aside0.mk (Kd.R_mono (ok' := fun k_ => some k_ ≠ (.slice Ao29 t248.length co29 : Value).ownBlock ∧ some k_ ≠ (.slice Ao36 t255.length co36 : Value).ownBlock ∧ some k_ ≠ (.slice Ao46 t264.length co46 : Value).ownBlock ∧ some k_ ≠ (.slice Ao77 t272.length co77 : Value).ownBlock ∧ some k_ ≠ (.slice Ao80 t276.length co80 : Value).ownBlock) (Kd.R_keptB (HO_9.out) hkp (fun k_ hk_ hs_ => (hk_.1.1.2.1) hs_)) (fun k_ hk_ => ⟨hk_.1.1.1.1, hk_.1.1.1.2.1, hk_.1.1.1.2.2, hk_.1.1.2, hk_.1.2⟩)); have n1_ := Aside0.mk (Kd.R_mono (ok' := fun k_ => some k_ ≠ (.slice Ao39 t259.length co39 : Value).ownBlock ∧ some k_ ≠ (.slice Ao36 t255.length co36 : Value).ownBlock ∧ some k_ ≠ (.slice Ao46 t264.length co46 : Value).ownBlock ∧ some k_ ≠ (.slice Ao77 t272.length co77 : Value).ownBlock ∧ some k_ ≠ (.slice Ao80 t276.length co80 : Value).ownBlock) (Kd.R_keptB (HO_253002.out) hkp (fun k_ hk_ hs_ => (hk_.1.1.2.1) hs_)) (fun k_ hk_ => ⟨hk_.1.1.1.1, hk_.1.1.1.2.1, hk_.1.1.1.2.2, hk_.1.1.2, hk_.1.2⟩)); have n2_ := Aside0.mk (Kd.R_reok rfl hy0 (fun k_ e_ => HO_259002.out.1 k_ e_)); have n3_ := Aside0.mk (Kd.R_mono (ok' := fun k_ => some k_ ≠ (.slice Ao39 t259.length co39 : Value).ownBlock ∧ some k_ ≠ (.slice Ao29 t248.length co29 : Value).ownBlock ∧ some k_ ≠ (.slice Ao36 t255.length co36 : Value).ownBlock ∧ some k_ ≠ (.slice Ao77 t272.length co77 : Value).ownBlock ∧ some k_ ≠ (.slice Ao80 t276.length co80 : Value).ownBlock) (Kd.R_keptB (HO_269002.out) hkp (fun k_ hk_ hs_ => (hk_.1.1.2.2) hs_)) (fun k_ hk_ => ⟨hk_.1.1.1.1, hk_.1.1.1.2.1, hk_.1.1.1.2.2, hk_.1.1.2, hk_.1.2⟩)); have n4_ := Aside0.mk (blk_kept (by (with_reducible repeat (first | refine blk_drewN ?_ _ | refine blk_drew ?_ | refine blk_alloc ?_ _)); exact BK236.out) hkp (fun hs_ => (fun e_ => (Kd.R_ne HO_259002.out BK236.out (by decide)) e_) hs_)); have n5_ := Aside0.mk (blk_kept (by (with_reducible repeat (first | refine blk_drewN ?_ _ | refine blk_drew ?_ | refine blk_alloc ?_ _)); exact BK252.out) hkp (fun hs_ => (fun e_ => (Kd.R_ne HO_259002.out BK252.out (by decide)) e_) hs_)); have n6_ := Aside0.mk (blk_kept (by (with_reducible repeat (first | refine blk_drewN ?_ _ | refine blk_drew ?_ | refine blk_alloc ?_ _)); exact BK258.out) hkp (fun hs_ => (fun e_ => (Kd.R_ne HO_259002.out BK258.out (by decide)) e_) hs_)); have n7_ := Aside0.mk (blk_kept (by (with_reducible repeat (first | refine blk_drewN ?_ _ | refine blk_drew ?_ | refine blk_alloc ?_ _)); exact BK268.out) hkp (fun hs_ => (fun e_ => (Kd.R_ne HO_259002.out BK268.out (by decide)) e_) hs_)); have n8_ := Aside0.mk (Kd.R_mono (ok' := fun k_ => some k_ ≠ (.slice Ao39 t259.length co39 : Value).ownBlock ∧ some k_ ≠ (.slice Ao29 t248.length co29 : Value).ownBlock ∧ some k_ ≠ (.slice Ao36 t255.length co36 : Value).ownBlock ∧ some k_ ≠ (.slice Ao46 t264.length co46 : Value).ownBlock ∧ some k_ ≠ (.slice Ao80 t276.length co80 : Value).ownBlock) (Kd.R_keptB (HO274.out) hkp (fun k_ hk_ hs_ => (hk_.1.1.2) hs_)) (fun k_ hk_ => ⟨hk_.1.1.1.1.1.2, hk_.1.1.1.1.2, hk_.1.1.1.2, hk_.1.1.2, hk_.1.2⟩)); have n9_ := Aside0.mk (Kd.R_mono (ok' := fun k_ => some k_ ≠ (.slice Ao39 t259.length co39 : Value).ownBlock ∧ some k_ ≠ (.slice Ao29 t248.length co29 : Value).ownBlock ∧ some k_ ≠ (.slice Ao36 t255.length co36 : Value).ownBlock ∧ some k_ ≠ (.slice Ao46 t264.length co46 : Value).ownBlock ∧ some k_ ≠ (.slice Ao77 t272.length co77 : Value).ownBlock) (Kd.R_keptB (HO278.out) hkp (fun k_ hk_ hs_ => (hk_.1.1.2) hs_)) (fun k_ hk_ => ⟨hk_.1.1.1.1.1.2, hk_.1.1.1.1.2, hk_.1.1.1.2, hk_.1.1.2, hk_.1.2⟩)); have n10_ := Aside0.mk (hb); clear HO_9; clear HO_253002; clear HO_259002; clear HO_269002; clear BK236; clear BK252; clear BK258; clear BK268; clear HO274; clear HO278; clear HB; have HO_9 := n0_; have HO_253002 := n1_; have HO_259002 := n2_; have HO_269002 := n3_; have BK236 := n4_; have BK252 := n5_; have BK258 := n6_; have BK268 := n7_; have HO274 := n8_; have HO278 := n9_; have HB := n10_; clear n0_ n1_ n2_ n3_ n4_ n5_ n6_ n7_ n8_ n9_ n10_; (try clear hb); (try clear hkp); (try clear hy0)) | ((with_reducible refine gate_callee (f := 19) rfl ?_); refine goesL_ (some 67) rfl rfl Try.func19 (by kernel_rfl) rfl #[.slice Ao39 t259.length co39, .int .i64 t280] rfl (by (try simp only [List.map_toArray, List.map_cons, List.map_nil]); first | done | rfl | (simp only [List.length_drop, List.length_take]; rfl)) ?_; (with_reducible refine (laws_markIntS.calls kj15 (fun k_ => some k_ = (.slice Ao39 t259.length co39 : Value).ownBlock) (.slice Ao39 t259.length co39) t259 t280 t282 t283 w _ ?side1 ?side2 A73.out).mono ?_); (case side1 => repeat (first | (with_reducible first | exact HB.out | apply below_alloc | apply pw_below_drewN | apply below_drew1 | refine below_set ?_ GE236.out | refine below_set ?_ GE252.out | refine below_set ?_ GE258.out | refine below_set ?_ GE268.out) | exact HB.out)); (case side2 => exact Kd.R_tight rfl HO_9.out); rintro e w86 ⟨rfl, hy0, hb, hkp⟩; refine ⟨_, rfl, ?_⟩; have n0_ := Aside0.mk (Kd.R_reok rfl hy0 (fun k_ e_ => HO_9.out.1 k_ e_)); have n1_ := Aside0.mk (Kd.R_mono (ok' := fun k_ => some k_ ≠ (.slice Ao39 t259.length co39 : Value).ownBlock ∧ some k_ ≠ (.slice Ao36 t255.length co36 : Value).ownBlock ∧ some k_ ≠ (.slice Ao46 t264.length co46 : Value).ownBlock ∧ some k_ ≠ (.slice Ao77 t272.length co77 : Value).ownBlock ∧ some k_ ≠ (.slice Ao80 t276.length co80 : Value).ownBlock) (Kd.R_keptB (HO_253002.out) hkp (fun k_ hk_ hs_ => (hk_.1) hs_)) (fun k_ hk_ => ⟨hk_.1.1, hk_.1.2.1, hk_.1.2.2.1, hk_.1.2.2.2.1, hk_.1.2.2.2.2⟩)); have n2_ := Aside0.mk (Kd.R_mono (ok' := fun k_ => some k_ ≠ (.slice Ao39 t259.length co39 : Value).ownBlock ∧ some k_ ≠ (.slice Ao29 t248.length co29 : Value).ownBlock ∧ some k_ ≠ (.slice Ao46 t264.length co46 : Value).ownBlock ∧ some k_ ≠ (.slice Ao77 t272.length co77 : Value).ownBlock ∧ some k_ ≠ (.slice Ao80 t276.length co80 : Value).ownBlock) (Kd.R_keptB (HO_259002.out) hkp (fun k_ hk_ hs_ => (hk_.1.1.1) hs_)) (fun k_ hk_ => ⟨hk_.1.1.1.1, hk_.1.1.1.2.1, hk_.1.1.1.2.2, hk_.1.1.2, hk_.1.2⟩)); have n3_ := Aside0.mk (Kd.R_mono (ok' := fun k_ => some k_ ≠ (.slice Ao39 t259.length co39 : Value).ownBlock ∧ some k_ ≠ (.slice Ao29 t248.length co29 : Value).ownBlock ∧ some k_ ≠ (.slice Ao36 t255.length co36 : Value).ownBlock ∧ some k_ ≠ (.slice Ao77 t272.length co77 : Value).ownBlock ∧ some k_ ≠ (.slice Ao80 t276.length co80 : Value).ownBlock) (Kd.R_keptB (HO_269002.out) hkp (fun k_ hk_ hs_ => (hk_.1) hs_)) (fun k_ hk_ => ⟨hk_.1.1, hk_.1.2.1, hk_.1.2.2.1, hk_.1.2.2.2.1, hk_.1.2.2.2.2⟩)); have n4_ := Aside0.mk (blk_kept (by (with_reducible repeat (first | refine blk_drewN ?_ _ | refine blk_drew ?_ | refine blk_alloc ?_ _)); exact BK236.out) hkp (fun hs_ => (fun e_ => (Kd.R_ne HO_9.out BK236.out (by decide)) e_) hs_)); have n5_ := Aside0.mk (blk_kept (by (with_reducible repeat (first | refine blk_drewN ?_ _ | refine blk_drew ?_ | refine blk_alloc ?_ _)); exact BK252.out) hkp (fun hs_ => (fun e_ => (Kd.R_ne HO_9.out BK252.out (by decide)) e_) hs_)); have n6_ := Aside0.mk (blk_kept (by (with_reducible repeat (first | refine blk_drewN ?_ _ | refine blk_drew ?_ | refine blk_alloc ?_ _)); exact BK258.out) hkp (fun hs_ => (fun e_ => (Kd.R_ne HO_9.out BK258.out (by decide)) e_) hs_)); have n7_ := Aside0.mk (blk_kept (by (with_reducible repeat (first | refine blk_drewN ?_ _ | refine blk_drew ?_ | refine blk_alloc ?_ _)); exact BK268.out) hkp (fun hs_ => (fun e_ => (Kd.R_ne HO_9.out BK268.out (by decide)) e_) hs_)); have n8_ := Aside0.mk (Kd.R_mono (ok' := fun k_ => some k_ ≠ (.slice Ao39 t259.length co39 : Value).ownBlock ∧ some k_ ≠ (.slice Ao29 t248.length co29 : Value).ownBlock ∧ some k_ ≠ (.slice Ao36 t255.length co36 : Value).ownBlock ∧ some k_ ≠ (.slice Ao46 t264.length co46 : Value).ownBlock ∧ some k_ ≠ (.slice Ao80 t276.length co80 : Value).ownBlock) (Kd.R_keptB (HO274.out) hkp (fun k_ hk_ hs_ => (hk_.1) hs_)) (fun k_ hk_ => ⟨hk_.1.1, hk_.1.2.1, hk_.1.2.2.1, hk_.1.2.2.2.1, hk_.1.2.2.2.2⟩)); have n9_ := Aside0.mk (Kd.R_mono (ok' := fun k_ => some k_ ≠ (.slice Ao39 t259.length co39 : Value).ownBlock ∧ some k_ ≠ (.slice Ao29 t248.length co29 : Value).ownBlock ∧ some k_ ≠ (.slice Ao36 t255.length co36 : Value).ownBlock ∧ some k_ ≠ (.slice Ao46 t264.length co46 : Value).ownBlock ∧ some k_ ≠ (.slice Ao77 t272.length co77 : Value).ownBlock) (Kd.R_keptB (HO278.out) hkp (fun k_ hk_ hs_ => (hk_.1) hs_)) (fun k_ hk_ => ⟨hk_.1.1, hk_.1.2.1, hk_.1.2.2.1, hk_.1.2.2.2.1, hk_.1.2.2.2.2⟩)); have n10_ := Aside0.mk (hb); clear HO_9; clear HO_253002; clear HO_259002; clear HO_269002; clear BK236; clear BK252; clear BK258; clear BK268; clear HO274; clear HO278; clear HB; have HO_9 := n0_; have HO_253002 := n1_; have HO_259002 := n2_; have HO_269002 := n3_; have BK236 := n4_; have BK252 := n5_; have BK258 := n6_; have BK268 := n7_; have HO274 := n8_; have HO278 := n9_; have HB := n10_; clear n0_ n1_ n2_ n3_ n4_ n5_ n6_ n7_ n8_ n9_ n10_; (try clear hb); (try clear hkp); (try clear hy0)))
                (try simp only [Act.put, List.setIfInBounds_toArray, List.set_cons_zero, List.set_cons_succ])
                go_cut [80] (fun v80 wc => ∃ (kq : Nat) (x80_73 : Bool), v80 = .bool x80_73 ∧ Aside0 (laws_FnExactCoverOf.j1 kq l1 t251 x80_73 a0_0 a0_1 l0_2 t246 t247 t248 t262 t263 t264 = some true) ∧ Aside0 (kq ≤ kj15) ∧ Aside0 (Kd.R (Kd.int .i64) 3 wc w.heap.size (fun k_ => some k_ ≠ ((.slice Ao36 t255.length co36) : Value).ownBlock ∧ some k_ ≠ ((.slice Ao46 t264.length co46) : Value).ownBlock) (.slice Ao29 t248.length co29) t248) ∧ Aside0 (Kd.R (Kd.int .i64) 3 wc w.heap.size (fun k_ => some k_ ≠ ((.slice Ao29 t248.length co29) : Value).ownBlock ∧ some k_ ≠ ((.slice Ao46 t264.length co46) : Value).ownBlock) (.slice Ao36 t255.length co36) t281) ∧ Aside0 (Kd.R (Kd.int .i64) 3 wc w.heap.size (fun k_ => some k_ ≠ ((.slice Ao29 t248.length co29) : Value).ownBlock ∧ some k_ ≠ ((.slice Ao36 t255.length co36) : Value).ownBlock) (.slice Ao46 t264.length co46) t264) ∧ Aside0 (wc.heap[gb236]? = some (.cells #[.int .i64 a0_0, .int .i64 a0_1, (.slice A0_2 l0_2.length c0_2)] 24 (0, 0))) ∧ Aside0 (wc.heap[gb252]? = some (.cells #[.int .i64 t246, .int .i64 t247, (.slice Ao29 t248.length co29)] 28 (0, 0))) ∧ Aside0 (wc.heap[gb258]? = some (.cells #[.int .i64 t253, .int .i64 t254, (.slice Ao36 t255.length co36)] 28 (0, 0))) ∧ Aside0 (wc.heap[gb268]? = some (.cells #[.int .i64 t262, .int .i64 t263, (.slice Ao46 t264.length co46)] 28 (0, 0))) ∧ Aside0 (Below w.heap.size w wc))
                case first =>
                  have H := HC74.out
                  clear HC74
                  by_cases c87 : t282 < 0
                  · rw [if_pos c87] at H
                    have c87b0 : decide (t282 < 0) = true := decide_eq_true c87
                    clear c87
                    (first | rw [c87b0] | (simp only [i64_w, i32_w]; rw [c87b0]) | skip)
                    have H' := Aside0.mk H
                    clear H
                    go_wp2
                    go_meet
                    case rel => exact ⟨_, (true), (by first | rfl | (simp; done) | (simp [*]; done)), H', ⟨by have := HJ15.out; first | omega | exact Nat.le_refl _⟩, ⟨by (with_reducible repeat (first | apply Kd.R_alloc | apply Kd.R_drewN | apply Kd.R_drew)); exact Kd.R_mono HO_253002.out (fun _ hk => ⟨hk.2.1, hk.2.2.1⟩)⟩, ⟨by (with_reducible repeat (first | apply Kd.R_alloc | apply Kd.R_drewN | apply Kd.R_drew)); exact Kd.R_mono HO_259002.out (fun _ hk => ⟨hk.2.1, hk.2.2.1⟩)⟩, ⟨by (with_reducible repeat (first | apply Kd.R_alloc | apply Kd.R_drewN | apply Kd.R_drew)); exact Kd.R_mono HO_269002.out (fun _ hk => ⟨hk.2.1, hk.2.2.1⟩)⟩, ⟨by (with_reducible repeat (first | refine blk_drewN ?_ _ | refine blk_drew ?_ | refine blk_alloc ?_ _)); exact BK236.out⟩, ⟨by (with_reducible repeat (first | refine blk_drewN ?_ _ | refine blk_drew ?_ | refine blk_alloc ?_ _)); exact BK252.out⟩, ⟨by (with_reducible repeat (first | refine blk_drewN ?_ _ | refine blk_drew ?_ | refine blk_alloc ?_ _)); exact BK258.out⟩, ⟨by (with_reducible repeat (first | refine blk_drewN ?_ _ | refine blk_drew ?_ | refine blk_alloc ?_ _)); exact BK268.out⟩, ⟨by repeat (first | (with_reducible first | exact HB.out | apply below_alloc | apply pw_below_drewN | apply below_drew1 | refine below_set ?_ GE236.out | refine below_set ?_ GE252.out | refine below_set ?_ GE258.out | refine below_set ?_ GE268.out) | exact HB.out)⟩⟩
                  · rw [if_neg c87] at H
                    have c87b0 : decide (t282 < 0) = false := decide_eq_false c87
                    clear c87
                    (first | rw [c87b0] | (simp only [i64_w, i32_w]; rw [c87b0]) | skip)
                    replace H := Option.bind_eq_some_iff.mp H
                    obtain ⟨t284, A880, H⟩ := H
                    replace H : (if t284 = true then (laws_FnExactCoverOf.j1 kj15 l1 t251 (t267 != t251) a0_0 a0_1 l0_2 t246 t247 t248 t262 t263 t264) else (laws_FnExactCoverOf.j1 kj15 l1 t251 true a0_0 a0_1 l0_2 t246 t247 t248 t262 t263 t264)) = some true := H
                    have A88 := Aside0.mk A880
                    clear A880
                    by_cases c89 : t284 = true
                    · subst c89
                      have H1 : (laws_FnExactCoverOf.j1 kj15 l1 t251 (t267 != t251) a0_0 a0_1 l0_2 t246 t247 t248 t262 t263 t264) = some true := by first | exact rfl | (rw [if_pos rfl] at H; exact H)
                      clear H
                      have H := H1
                      clear H1
                      have H' := Aside0.mk H
                      clear H
                      have hnb90 := NB268_236.out
                      have hnc90 := NB236_268.out
                      have hnb91 := NB268_252.out
                      have hnc91 := NB252_268.out
                      have hnb92 := NB268_258.out
                      have hnc92 := NB258_268.out
                      have hcz93_0 : w86.cell? ⟨gb268, 0, none⟩ = some (.int .i64 t262) := (blk_cell BK268.out 0).trans rfl
                      have hcz93_1 : w86.cell? ⟨gb268, 1, none⟩ = some (.int .i64 t263) := (blk_cell BK268.out 1).trans rfl
                      have hcz93_2 : w86.cell? ⟨gb268, 2, none⟩ = some (.slice Ao46 t264.length co46) := (blk_cell BK268.out 2).trans rfl
                      have hfz93_0 := blk_frozen BK268.out 0
                      have hfz93_1 := blk_frozen BK268.out 1
                      have hfz93_2 := blk_frozen BK268.out 2
                      have hnb94 := NB252_236.out
                      have hnc94 := NB236_252.out
                      have hnb95 := NB252_258.out
                      have hnc95 := NB258_252.out
                      have hcz96_0 : w86.cell? ⟨gb252, 0, none⟩ = some (.int .i64 t246) := (blk_cell BK252.out 0).trans rfl
                      have hcz96_1 : w86.cell? ⟨gb252, 1, none⟩ = some (.int .i64 t247) := (blk_cell BK252.out 1).trans rfl
                      have hcz96_2 : w86.cell? ⟨gb252, 2, none⟩ = some (.slice Ao29 t248.length co29) := (blk_cell BK252.out 2).trans rfl
                      have hfz96_0 := blk_frozen BK252.out 0
                      have hfz96_1 := blk_frozen BK252.out 1
                      have hfz96_2 := blk_frozen BK252.out 2
                      go_wp2_with (first | (go_at_call 17; (with_reducible refine (laws_eqTable.calls kj15 t262 t263 _ _ t264 t246 t247 _ _ t248 true _ ?side1 ?side2 ?side3 ?side4 A88.out).mono ?_); (case side1 => repeat (first | exact (Kd.R_reads' HO_269002.out).2.2 | (with_reducible refine Kd.C_alloc ?_ _) | (with_reducible refine Kd.C_drewN ?_ _) | (with_reducible refine Kd.C_drew ?_))); (case side2 => exact (Kd.R_reads' HO_269002.out).2.1); (case side3 => repeat (first | exact (Kd.R_reads' HO_253002.out).2.2 | (with_reducible refine Kd.C_alloc ?_ _) | (with_reducible refine Kd.C_drewN ?_ _) | (with_reducible refine Kd.C_drew ?_))); (case side4 => exact (Kd.R_reads' HO_253002.out).2.1); rintro e w97 ⟨rfl, hb⟩; have n0_ := Aside0.mk (Kd.R_below (by (with_reducible repeat (first | apply Kd.R_alloc | apply Kd.R_drewN | apply Kd.R_drew)); exact HO_9.out) hb); have n1_ := Aside0.mk (Kd.R_below (by (with_reducible repeat (first | apply Kd.R_alloc | apply Kd.R_drewN | apply Kd.R_drew)); exact HO_253002.out) hb); have n2_ := Aside0.mk (Kd.R_below (by (with_reducible repeat (first | apply Kd.R_alloc | apply Kd.R_drewN | apply Kd.R_drew)); exact HO_259002.out) hb); have n3_ := Aside0.mk (Kd.R_below (by (with_reducible repeat (first | apply Kd.R_alloc | apply Kd.R_drewN | apply Kd.R_drew)); exact HO_269002.out) hb); have n4_ := Aside0.mk (Kd.R_below (by (with_reducible repeat (first | apply Kd.R_alloc | apply Kd.R_drewN | apply Kd.R_drew)); exact HO274.out) hb); have n5_ := Aside0.mk (Kd.R_below (by (with_reducible repeat (first | apply Kd.R_alloc | apply Kd.R_drewN | apply Kd.R_drew)); exact HO278.out) hb); have n6_ := Aside0.mk (blk_below (g := gb236) (o := .cells #[.int .i64 a0_0, .int .i64 a0_1, .slice A0_2 l0_2.length c0_2] 24 (0, 0)) (by (with_reducible repeat (first | refine blk_drewN ?_ _ | refine blk_drew ?_ | refine blk_alloc ?_ _)); exact BK236.out) hb); have n7_ := Aside0.mk (blk_below (g := gb252) (o := .cells #[.int .i64 t246, .int .i64 t247, .slice Ao29 t248.length co29] 28 (0, 0)) (by (with_reducible repeat (first | refine blk_drewN ?_ _ | refine blk_drew ?_ | refine blk_alloc ?_ _)); exact BK252.out) hb); have n8_ := Aside0.mk (blk_below (g := gb258) (o := .cells #[.int .i64 t253, .int .i64 t254, .slice Ao36 t255.length co36] 28 (0, 0)) (by (with_reducible repeat (first | refine blk_drewN ?_ _ | refine blk_drew ?_ | refine blk_alloc ?_ _)); exact BK258.out) hb); have n9_ := Aside0.mk (blk_below (g := gb268) (o := .cells #[.int .i64 t262, .int .i64 t263, .slice Ao46 t264.length co46] 28 (0, 0)) (by (with_reducible repeat (first | refine blk_drewN ?_ _ | refine blk_drew ?_ | refine blk_alloc ?_ _)); exact BK268.out) hb); have n10_ := Aside0.mk (below_step (by repeat (first | (with_reducible first | exact HB.out | apply below_alloc | apply pw_below_drewN | apply below_drew1 | refine below_set ?_ GE236.out | refine below_set ?_ GE252.out | refine below_set ?_ GE258.out | refine below_set ?_ GE268.out) | exact HB.out)) hb); clear HO_9; clear HO_253002; clear HO_259002; clear HO_269002; clear HO274; clear HO278; clear BK236; clear BK252; clear BK258; clear BK268; clear HB; have HO_9 := n0_; have HO_253002 := n1_; have HO_259002 := n2_; have HO_269002 := n3_; have HO274 := n4_; have HO278 := n5_; have BK236 := n6_; have BK252 := n7_; have BK258 := n8_; have BK268 := n9_; have HB := n10_; clear n0_ n1_ n2_ n3_ n4_ n5_ n6_ n7_ n8_ n9_ n10_; (try clear hb); (try clear hb2); (try clear hk); (try clear hi)))
                      go_meet
                      case rel => exact ⟨_, ((t267 != t251)), (by first | rfl | (simp; done) | (simp [*]; done)), H', ⟨by have := HJ15.out; first | omega | exact Nat.le_refl _⟩, ⟨by (with_reducible repeat (first | apply Kd.R_alloc | apply Kd.R_drewN | apply Kd.R_drew)); exact Kd.R_mono HO_253002.out (fun _ hk => ⟨hk.2.1, hk.2.2.1⟩)⟩, ⟨by (with_reducible repeat (first | apply Kd.R_alloc | apply Kd.R_drewN | apply Kd.R_drew)); exact Kd.R_mono HO_259002.out (fun _ hk => ⟨hk.2.1, hk.2.2.1⟩)⟩, ⟨by (with_reducible repeat (first | apply Kd.R_alloc | apply Kd.R_drewN | apply Kd.R_drew)); exact Kd.R_mono HO_269002.out (fun _ hk => ⟨hk.2.1, hk.2.2.1⟩)⟩, ⟨by (with_reducible repeat (first | refine blk_drewN ?_ _ | refine blk_drew ?_ | refine blk_alloc ?_ _)); exact BK236.out⟩, ⟨by (with_reducible repeat (first | refine blk_drewN ?_ _ | refine blk_drew ?_ | refine blk_alloc ?_ _)); exact BK252.out⟩, ⟨by (with_reducible repeat (first | refine blk_drewN ?_ _ | refine blk_drew ?_ | refine blk_alloc ?_ _)); exact BK258.out⟩, ⟨by (with_reducible repeat (first | refine blk_drewN ?_ _ | refine blk_drew ?_ | refine blk_alloc ?_ _)); exact BK268.out⟩, ⟨by repeat (first | (with_reducible first | exact HB.out | apply below_alloc | apply pw_below_drewN | apply below_drew1 | refine below_set ?_ GE236.out | refine below_set ?_ GE252.out | refine below_set ?_ GE258.out | refine below_set ?_ GE268.out) | exact HB.out)⟩⟩
                    · replace c89 := Bool.eq_false_iff.mpr c89
                      subst c89
                      have H1 : (laws_FnExactCoverOf.j1 kj15 l1 t251 true a0_0 a0_1 l0_2 t246 t247 t248 t262 t263 t264) = some true := by first | exact rfl | (rw [if_neg (show ¬ (false = true) by decide)] at H; exact H)
                      clear H
                      have H := H1
                      clear H1
                      have H' := Aside0.mk H
                      clear H
                      have hnb98 := NB268_236.out
                      have hnc98 := NB236_268.out
                      have hnb99 := NB268_252.out
                      have hnc99 := NB252_268.out
                      have hnb100 := NB268_258.out
                      have hnc100 := NB258_268.out
                      have hcz101_0 : w86.cell? ⟨gb268, 0, none⟩ = some (.int .i64 t262) := (blk_cell BK268.out 0).trans rfl
                      have hcz101_1 : w86.cell? ⟨gb268, 1, none⟩ = some (.int .i64 t263) := (blk_cell BK268.out 1).trans rfl
                      have hcz101_2 : w86.cell? ⟨gb268, 2, none⟩ = some (.slice Ao46 t264.length co46) := (blk_cell BK268.out 2).trans rfl
                      have hfz101_0 := blk_frozen BK268.out 0
                      have hfz101_1 := blk_frozen BK268.out 1
                      have hfz101_2 := blk_frozen BK268.out 2
                      have hnb102 := NB252_236.out
                      have hnc102 := NB236_252.out
                      have hnb103 := NB252_258.out
                      have hnc103 := NB258_252.out
                      have hcz104_0 : w86.cell? ⟨gb252, 0, none⟩ = some (.int .i64 t246) := (blk_cell BK252.out 0).trans rfl
                      have hcz104_1 : w86.cell? ⟨gb252, 1, none⟩ = some (.int .i64 t247) := (blk_cell BK252.out 1).trans rfl
                      have hcz104_2 : w86.cell? ⟨gb252, 2, none⟩ = some (.slice Ao29 t248.length co29) := (blk_cell BK252.out 2).trans rfl
                      have hfz104_0 := blk_frozen BK252.out 0
                      have hfz104_1 := blk_frozen BK252.out 1
                      have hfz104_2 := blk_frozen BK252.out 2
                      go_wp2_with (first | (go_at_call 17; (with_reducible refine (laws_eqTable.calls kj15 t262 t263 _ _ t264 t246 t247 _ _ t248 false _ ?side1 ?side2 ?side3 ?side4 A88.out).mono ?_); (case side1 => repeat (first | exact (Kd.R_reads' HO_269002.out).2.2 | (with_reducible refine Kd.C_alloc ?_ _) | (with_reducible refine Kd.C_drewN ?_ _) | (with_reducible refine Kd.C_drew ?_))); (case side2 => exact (Kd.R_reads' HO_269002.out).2.1); (case side3 => repeat (first | exact (Kd.R_reads' HO_253002.out).2.2 | (with_reducible refine Kd.C_alloc ?_ _) | (with_reducible refine Kd.C_drewN ?_ _) | (with_reducible refine Kd.C_drew ?_))); (case side4 => exact (Kd.R_reads' HO_253002.out).2.1); rintro e w105 ⟨rfl, hb⟩; have n0_ := Aside0.mk (Kd.R_below (by (with_reducible repeat (first | apply Kd.R_alloc | apply Kd.R_drewN | apply Kd.R_drew)); exact HO_9.out) hb); have n1_ := Aside0.mk (Kd.R_below (by (with_reducible repeat (first | apply Kd.R_alloc | apply Kd.R_drewN | apply Kd.R_drew)); exact HO_253002.out) hb); have n2_ := Aside0.mk (Kd.R_below (by (with_reducible repeat (first | apply Kd.R_alloc | apply Kd.R_drewN | apply Kd.R_drew)); exact HO_259002.out) hb); have n3_ := Aside0.mk (Kd.R_below (by (with_reducible repeat (first | apply Kd.R_alloc | apply Kd.R_drewN | apply Kd.R_drew)); exact HO_269002.out) hb); have n4_ := Aside0.mk (Kd.R_below (by (with_reducible repeat (first | apply Kd.R_alloc | apply Kd.R_drewN | apply Kd.R_drew)); exact HO274.out) hb); have n5_ := Aside0.mk (Kd.R_below (by (with_reducible repeat (first | apply Kd.R_alloc | apply Kd.R_drewN | apply Kd.R_drew)); exact HO278.out) hb); have n6_ := Aside0.mk (blk_below (g := gb236) (o := .cells #[.int .i64 a0_0, .int .i64 a0_1, .slice A0_2 l0_2.length c0_2] 24 (0, 0)) (by (with_reducible repeat (first | refine blk_drewN ?_ _ | refine blk_drew ?_ | refine blk_alloc ?_ _)); exact BK236.out) hb); have n7_ := Aside0.mk (blk_below (g := gb252) (o := .cells #[.int .i64 t246, .int .i64 t247, .slice Ao29 t248.length co29] 28 (0, 0)) (by (with_reducible repeat (first | refine blk_drewN ?_ _ | refine blk_drew ?_ | refine blk_alloc ?_ _)); exact BK252.out) hb); have n8_ := Aside0.mk (blk_below (g := gb258) (o := .cells #[.int .i64 t253, .int .i64 t254, .slice Ao36 t255.length co36] 28 (0, 0)) (by (with_reducible repeat (first | refine blk_drewN ?_ _ | refine blk_drew ?_ | refine blk_alloc ?_ _)); exact BK258.out) hb); have n9_ := Aside0.mk (blk_below (g := gb268) (o := .cells #[.int .i64 t262, .int .i64 t263, .slice Ao46 t264.length co46] 28 (0, 0)) (by (with_reducible repeat (first | refine blk_drewN ?_ _ | refine blk_drew ?_ | refine blk_alloc ?_ _)); exact BK268.out) hb); have n10_ := Aside0.mk (below_step (by repeat (first | (with_reducible first | exact HB.out | apply below_alloc | apply pw_below_drewN | apply below_drew1 | refine below_set ?_ GE236.out | refine below_set ?_ GE252.out | refine below_set ?_ GE258.out | refine below_set ?_ GE268.out) | exact HB.out)) hb); clear HO_9; clear HO_253002; clear HO_259002; clear HO_269002; clear HO274; clear HO278; clear BK236; clear BK252; clear BK258; clear BK268; clear HB; have HO_9 := n0_; have HO_253002 := n1_; have HO_259002 := n2_; have HO_269002 := n3_; have HO274 := n4_; have HO278 := n5_; have BK236 := n6_; have BK252 := n7_; have BK258 := n8_; have BK268 := n9_; have HB := n10_; clear n0_ n1_ n2_ n3_ n4_ n5_ n6_ n7_ n8_ n9_ n10_; (try clear hb); (try clear hb2); (try clear hk); (try clear hi)))
                      go_meet
                      case rel => exact ⟨_, (true), (by first | rfl | (simp; done) | (simp [*]; done)), H', ⟨by have := HJ15.out; first | omega | exact Nat.le_refl _⟩, ⟨by (with_reducible repeat (first | apply Kd.R_alloc | apply Kd.R_drewN | apply Kd.R_drew)); exact Kd.R_mono HO_253002.out (fun _ hk => ⟨hk.2.1, hk.2.2.1⟩)⟩, ⟨by (with_reducible repeat (first | apply Kd.R_alloc | apply Kd.R_drewN | apply Kd.R_drew)); exact Kd.R_mono HO_259002.out (fun _ hk => ⟨hk.2.1, hk.2.2.1⟩)⟩, ⟨by (with_reducible repeat (first | apply Kd.R_alloc | apply Kd.R_drewN | apply Kd.R_drew)); exact Kd.R_mono HO_269002.out (fun _ hk => ⟨hk.2.1, hk.2.2.1⟩)⟩, ⟨by (with_reducible repeat (first | refine blk_drewN ?_ _ | refine blk_drew ?_ | refine blk_alloc ?_ _)); exact BK236.out⟩, ⟨by (with_reducible repeat (first | refine blk_drewN ?_ _ | refine blk_drew ?_ | refine blk_alloc ?_ _)); exact BK252.out⟩, ⟨by (with_reducible repeat (first | refine blk_drewN ?_ _ | refine blk_drew ?_ | refine blk_alloc ?_ _)); exact BK258.out⟩, ⟨by (with_reducible repeat (first | refine blk_drewN ?_ _ | refine blk_drew ?_ | refine blk_alloc ?_ _)); exact BK268.out⟩, ⟨by repeat (first | (with_reducible first | exact HB.out | apply below_alloc | apply pw_below_drewN | apply below_drew1 | refine below_set ?_ GE236.out | refine below_set ?_ GE252.out | refine below_set ?_ GE258.out | refine below_set ?_ GE268.out) | exact HB.out)⟩⟩
                case rest =>
                  clear HC74
                  try clear c1
                  try clear c2
                  try clear p2
                  try clear c3
                  try clear c3b0
                  try clear c3b1
                  try clear c4
                  try clear c5
                  try clear c6
                  try clear c6b0
                  try clear c7
                  try clear c8
                  try clear c9
                  try clear c10
                  try clear c11
                  try clear c12
                  try clear c14
                  try clear c16
                  try clear c17
                  try clear c18
                  try clear c19
                  try clear c27
                  try clear c33
                  try clear c34
                  try clear c38
                  try clear c40
                  try clear c41
                  try clear c42
                  try clear c43
                  try clear c44
                  try clear c48
                  try clear c49
                  try clear c50
                  try clear c51
                  try clear c53
                  try clear c54
                  try clear c57
                  try clear c58
                  try clear c59
                  try clear c61
                  try clear c62
                  try clear c65
                  try clear c68
                  try clear c71
                  try clear c81
                  try clear c82
                  try clear c83
                  try clear c87
                  try clear c87b0
                  try clear c89
                  try clear c90
                  try clear c91
                  try clear c92
                  try clear c94
                  try clear c95
                  try clear c98
                  try clear c99
                  try clear c100
                  try clear c102
                  try clear c103
                  try clear hcz101_0
                  try clear hcz101_1
                  try clear hcz101_2
                  try clear hcz104_0
                  try clear hcz104_1
                  try clear hcz104_2
                  try clear hcz18_0
                  try clear hcz18_1
                  try clear hcz18_2
                  try clear hcz20_0
                  try clear hcz20_1
                  try clear hcz20_2
                  try clear hcz28_0
                  try clear hcz28_1
                  try clear hcz28_2
                  try clear hcz30_0
                  try clear hcz30_1
                  try clear hcz30_2
                  try clear hcz35_0
                  try clear hcz35_1
                  try clear hcz35_2
                  try clear hcz38_0
                  try clear hcz38_1
                  try clear hcz38_2
                  try clear hcz45_0
                  try clear hcz45_1
                  try clear hcz45_2
                  try clear hcz52_0
                  try clear hcz52_1
                  try clear hcz52_2
                  try clear hcz55_0
                  try clear hcz55_1
                  try clear hcz55_2
                  try clear hcz60_0
                  try clear hcz60_1
                  try clear hcz60_2
                  try clear hcz63_0
                  try clear hcz63_1
                  try clear hcz63_2
                  try clear hcz84_0
                  try clear hcz84_1
                  try clear hcz84_2
                  try clear hcz8_0
                  try clear hcz8_1
                  try clear hcz8_2
                  try clear hcz93_0
                  try clear hcz93_1
                  try clear hcz93_2
                  try clear hcz96_0
                  try clear hcz96_1
                  try clear hcz96_2
                  try clear hfz101_0
                  try clear hfz101_1
                  try clear hfz101_2
                  try clear hfz104_0
                  try clear hfz104_1
                  try clear hfz104_2
                  try clear hfz18_0
                  try clear hfz18_1
                  try clear hfz18_2
                  try clear hfz20_0
                  try clear hfz20_1
                  try clear hfz20_2
                  try clear hfz28_0
                  try clear hfz28_1
                  try clear hfz28_2
                  try clear hfz30_0
                  try clear hfz30_1
                  try clear hfz30_2
                  try clear hfz35_0
                  try clear hfz35_1
                  try clear hfz35_2
                  try clear hfz38_0
                  try clear hfz38_1
                  try clear hfz38_2
                  try clear hfz45_0
                  try clear hfz45_1
                  try clear hfz45_2
                  try clear hfz52_0
                  try clear hfz52_1
                  try clear hfz52_2
                  try clear hfz55_0
                  try clear hfz55_1
                  try clear hfz55_2
                  try clear hfz60_0
                  try clear hfz60_1
                  try clear hfz60_2
                  try clear hfz63_0
                  try clear hfz63_1
                  try clear hfz63_2
                  try clear hfz84_0
                  try clear hfz84_1
                  try clear hfz84_2
                  try clear hfz8_0
                  try clear hfz8_1
                  try clear hfz8_2
                  try clear hfz93_0
                  try clear hfz93_1
                  try clear hfz93_2
                  try clear hfz96_0
                  try clear hfz96_1
                  try clear hfz96_2
                  try clear p2
                  obtain ⟨kq, x80_73, rfl, HA, HJ73, HO_253002, HO_259002, HO_269002, BK236, BK252, BK258, BK268, HB⟩ := hcut
                  have hl259002_73 := (Kd.R_reads' HO_259002.out).1
                  rw [hl259002_73] at HO_259002
                  (try simp only [hl259002_73])
                  (try simp only [hl259002_73] at BK236)
                  (try simp only [hl259002_73] at BK252)
                  (try simp only [hl259002_73] at BK258)
                  (try simp only [hl259002_73] at BK268)
                  (try simp only [hl259002_73] at HO_253002)
                  (try simp only [hl259002_73] at HO_269002)
                  cases kq with
                  | zero => exact absurd HA.out (by simp [laws_FnExactCoverOf.j1])
                  | succ kj73 =>
                    have H := HA.out
                    clear HA
                    simp only [laws_FnExactCoverOf.j1] at H
                    by_cases c106 : x80_73 = true
                    · subst c106
                      have H1 : (some false) = some true := by first | exact rfl | (rw [if_pos rfl] at H; exact H)
                      clear H
                      have H := H1
                      clear H1
                      exact absurd H (by decide)
                    · replace c106 := Bool.eq_false_iff.mpr c106
                      subst c106
                      have H1 : ((laws_markTable.f kj73 t262 t263 t264 1).bind fun bt285 => ((laws_heldTable.f kj73 t262 t263 bt285.2 1).bind fun t287 => (if t287 < 0 then (some false) else (if t287 = bt285.1 then ((laws_toTable.f kj73 a0_0 a0_1 l0_2).bind fun bt288 => ((laws_toIntS.f kj73 l1).bind fun t293 => ((impl_CoverOf.f kj73 bt288.1 bt288.2.1 bt288.2.2 t293).bind fun bt296 => ((laws_eqTable.f kj73 bt296.1 bt296.2.1 bt296.2.2.1 t246 t247 t248).bind fun t303 => (if t303 = true then (laws_FnExactCoverOf.j2 kj73 bt285.1 (bt296.2.2.2 != t251) t262 t263 bt285.2) else (laws_FnExactCoverOf.j2 kj73 bt285.1 true t262 t263 bt285.2)))))) else (some false))))) = some true := by first | exact rfl | (rw [if_neg (show ¬ (false = true) by decide)] at H; exact H)
                      clear H
                      have H := H1
                      clear H1
                      replace H := Option.bind_eq_some_iff.mp H
                      obtain ⟨⟨t285, t286⟩, A1070, H⟩ := H
                      replace H : ((laws_heldTable.f kj73 t262 t263 t286 1).bind fun t287 => (if t287 < 0 then (some false) else (if t287 = t285 then ((laws_toTable.f kj73 a0_0 a0_1 l0_2).bind fun bt288 => ((laws_toIntS.f kj73 l1).bind fun t293 => ((impl_CoverOf.f kj73 bt288.1 bt288.2.1 bt288.2.2 t293).bind fun bt296 => ((laws_eqTable.f kj73 bt296.1 bt296.2.1 bt296.2.2.1 t246 t247 t248).bind fun t303 => (if t303 = true then (laws_FnExactCoverOf.j2 kj73 t285 (bt296.2.2.2 != t251) t262 t263 t286) else (laws_FnExactCoverOf.j2 kj73 t285 true t262 t263 t286)))))) else (some false)))) = some true := H
                      have A107 := Aside0.mk A1070
                      clear A1070
                      replace H := Option.bind_eq_some_iff.mp H
                      obtain ⟨t287, A1080, H⟩ := H
                      replace H : (if t287 < 0 then (some false) else (if t287 = t285 then ((laws_toTable.f kj73 a0_0 a0_1 l0_2).bind fun bt288 => ((laws_toIntS.f kj73 l1).bind fun t293 => ((impl_CoverOf.f kj73 bt288.1 bt288.2.1 bt288.2.2 t293).bind fun bt296 => ((laws_eqTable.f kj73 bt296.1 bt296.2.1 bt296.2.2.1 t246 t247 t248).bind fun t303 => (if t303 = true then (laws_FnExactCoverOf.j2 kj73 t285 (bt296.2.2.2 != t251) t262 t263 t286) else (laws_FnExactCoverOf.j2 kj73 t285 true t262 t263 t286)))))) else (some false))) = some true := H
                      have A108 := Aside0.mk A1080
                      clear A1080
                      by_cases c109 : t287 < 0
                      · rw [if_pos c109] at H
                        have c109b0 : decide (t287 < 0) = true := decide_eq_true c109
                        clear c109
                        exact absurd H (by decide)
                      · rw [if_neg c109] at H
                        have c109b0 : decide (t287 < 0) = false := decide_eq_false c109
                        clear c109
                        by_cases c110 : t287 = t285
                        · rw [if_pos c110] at H
                          have c110b0 : (t287 == t285) = true := beq_iff_eq.mpr c110
                          have c110b1 : (t287 != t285) = false := bne_eq_false_iff_eq.mpr c110
                          clear c110
                          replace H := Option.bind_eq_some_iff.mp H
                          obtain ⟨⟨t288, t289, t290⟩, A1110, H⟩ := H
                          replace H : ((laws_toIntS.f kj73 l1).bind fun t293 => ((impl_CoverOf.f kj73 t288 t289 t290 t293).bind fun bt296 => ((laws_eqTable.f kj73 bt296.1 bt296.2.1 bt296.2.2.1 t246 t247 t248).bind fun t303 => (if t303 = true then (laws_FnExactCoverOf.j2 kj73 t285 (bt296.2.2.2 != t251) t262 t263 t286) else (laws_FnExactCoverOf.j2 kj73 t285 true t262 t263 t286))))) = some true := H
                          have A111 := Aside0.mk A1110
                          clear A1110
                          replace H := Option.bind_eq_some_iff.mp H
                          obtain ⟨t293, A1120, H⟩ := H
                          replace H : ((impl_CoverOf.f kj73 t288 t289 t290 t293).bind fun bt296 => ((laws_eqTable.f kj73 bt296.1 bt296.2.1 bt296.2.2.1 t246 t247 t248).bind fun t303 => (if t303 = true then (laws_FnExactCoverOf.j2 kj73 t285 (bt296.2.2.2 != t251) t262 t263 t286) else (laws_FnExactCoverOf.j2 kj73 t285 true t262 t263 t286)))) = some true := H
                          have A112 := Aside0.mk A1120
                          clear A1120
                          replace H := Option.bind_eq_some_iff.mp H
                          obtain ⟨⟨t296, t297, t298, t301⟩, A1130, H⟩ := H
                          replace H : ((laws_eqTable.f kj73 t296 t297 t298 t246 t247 t248).bind fun t303 => (if t303 = true then (laws_FnExactCoverOf.j2 kj73 t285 (t301 != t251) t262 t263 t286) else (laws_FnExactCoverOf.j2 kj73 t285 true t262 t263 t286))) = some true := H
                          have A113 := Aside0.mk A1130
                          clear A1130
                          have HC114 := Aside0.mk H
                          clear H
                          have hnb115 := NB268_236.out
                          have hnc115 := NB236_268.out
                          have hnb116 := NB268_252.out
                          have hnc116 := NB252_268.out
                          have hnb117 := NB268_258.out
                          have hnc117 := NB258_268.out
                          have hcz118_0 : wc.cell? ⟨gb268, 0, none⟩ = some (.int .i64 t262) := (blk_cell BK268.out 0).trans rfl
                          have hcz118_1 : wc.cell? ⟨gb268, 1, none⟩ = some (.int .i64 t263) := (blk_cell BK268.out 1).trans rfl
                          have hcz118_2 : wc.cell? ⟨gb268, 2, none⟩ = some (.slice Ao46 t264.length co46) := (blk_cell BK268.out 2).trans rfl
                          have hfz118_0 := blk_frozen BK268.out 0
                          have hfz118_1 := blk_frozen BK268.out 1
                          have hfz118_2 := blk_frozen BK268.out 2
                          go_upto_region 31 with (first | ((with_reducible refine gate_callee (f := 18) rfl ?_); refine goesL_ (some 83) rfl rfl Try.func18 (by kernel_rfl) rfl #[.agg #[.int .i64 t262, .int .i64 t263, .slice Ao46 t264.length co46], .int .i64 1] rfl (by (try simp only [List.map_toArray, List.map_cons, List.map_nil]); first | done | rfl | (simp only [List.length_drop, List.length_take]; rfl)) ?_; (with_reducible refine (laws_markTable.calls kj73 t262 t263 (fun k_ => some k_ = (.slice Ao46 t264.length co46 : Value).ownBlock) (.slice Ao46 t264.length co46) t264 1 t285 t286 w _ ?side1 ?side2 A107.out).mono ?_); (case side1 => repeat (first | (with_reducible first | exact HB.out | apply below_alloc | apply pw_below_drewN | apply below_drew1 | refine below_set ?_ GE236.out | refine below_set ?_ GE252.out | refine below_set ?_ GE258.out | refine below_set ?_ GE268.out) | exact HB.out)); (case side2 => exact Kd.R_tight rfl HO_269002.out); rintro e w119 ⟨rfl, hy0, hb, hkp⟩; refine ⟨_, rfl, ?_⟩; have n0_ := Aside0.mk (Kd.R_mono (ok' := fun k_ => some k_ ≠ (.slice Ao36 t281.length co36 : Value).ownBlock ∧ some k_ ≠ (.slice Ao46 t264.length co46 : Value).ownBlock) (Kd.R_keptB (HO_253002.out) hkp (fun k_ hk_ hs_ => (hk_.2) hs_)) (fun k_ hk_ => ⟨hk_.1.1, hk_.1.2⟩)); have n1_ := Aside0.mk (Kd.R_mono (ok' := fun k_ => some k_ ≠ (.slice Ao29 t248.length co29 : Value).ownBlock ∧ some k_ ≠ (.slice Ao46 t264.length co46 : Value).ownBlock) (Kd.R_keptB (HO_259002.out) hkp (fun k_ hk_ hs_ => (hk_.2) hs_)) (fun k_ hk_ => ⟨hk_.1.1, hk_.1.2⟩)); have n2_ := Aside0.mk (Kd.R_reok rfl hy0 (fun k_ e_ => HO_269002.out.1 k_ e_)); have n3_ := Aside0.mk (blk_kept (by (with_reducible repeat (first | refine blk_drewN ?_ _ | refine blk_drew ?_ | refine blk_alloc ?_ _)); exact BK236.out) hkp (fun hs_ => (fun e_ => (Kd.R_ne HO_269002.out BK236.out (by decide)) e_) hs_)); have n4_ := Aside0.mk (blk_kept (by (with_reducible repeat (first | refine blk_drewN ?_ _ | refine blk_drew ?_ | refine blk_alloc ?_ _)); exact BK252.out) hkp (fun hs_ => (fun e_ => (Kd.R_ne HO_269002.out BK252.out (by decide)) e_) hs_)); have n5_ := Aside0.mk (blk_kept (by (with_reducible repeat (first | refine blk_drewN ?_ _ | refine blk_drew ?_ | refine blk_alloc ?_ _)); exact BK258.out) hkp (fun hs_ => (fun e_ => (Kd.R_ne HO_269002.out BK258.out (by decide)) e_) hs_)); have n6_ := Aside0.mk (blk_kept (by (with_reducible repeat (first | refine blk_drewN ?_ _ | refine blk_drew ?_ | refine blk_alloc ?_ _)); exact BK268.out) hkp (fun hs_ => (fun e_ => (Kd.R_ne HO_269002.out BK268.out (by decide)) e_) hs_)); have n7_ := Aside0.mk (hb); clear HO_253002; clear HO_259002; clear HO_269002; clear BK236; clear BK252; clear BK258; clear BK268; clear HB; have HO_253002 := n0_; have HO_259002 := n1_; have HO_269002 := n2_; have BK236 := n3_; have BK252 := n4_; have BK258 := n5_; have BK268 := n6_; have HB := n7_; clear n0_ n1_ n2_ n3_ n4_ n5_ n6_ n7_; (try clear hb); (try clear hkp); (try clear hy0); have hcz120_0 : w119.cell? ⟨gb268, 0, none⟩ = some (.int .i64 t262) := (blk_cell BK268.out 0).trans rfl; have hcz120_1 : w119.cell? ⟨gb268, 1, none⟩ = some (.int .i64 t263) := (blk_cell BK268.out 1).trans rfl; have hcz120_2 : w119.cell? ⟨gb268, 2, none⟩ = some (.slice Ao46 t264.length co46) := (blk_cell BK268.out 2).trans rfl; have hfz120_0 := blk_frozen BK268.out 0; have hfz120_1 := blk_frozen BK268.out 1; have hfz120_2 := blk_frozen BK268.out 2) | ((with_reducible refine gate_callee (f := 23) rfl ?_); refine goesL_ (some 86) rfl rfl Try.func23 (by kernel_rfl) rfl #[.agg #[.int .i64 t262, .int .i64 t263, .slice Ao46 t286.length co46], .int .i64 1] rfl (by (try simp only [List.map_toArray, List.map_cons, List.map_nil]); first | done | (rw [show t286.length = t264.length from (Kd.R_reads' HO_269002.out).1.symm] <;> rfl) | rfl | (simp only [List.length_drop, List.length_take]; rfl)) ?_; (with_reducible refine (laws_heldTable.calls kj73 t262 t263 _ _ t286 1 t287 _ ?side1 ?side2 A108.out).mono ?_); (case side1 => repeat (first | exact (Kd.R_reads' HO_269002.out).2.2 | (with_reducible refine Kd.C_alloc ?_ _) | (with_reducible refine Kd.C_drewN ?_ _) | (with_reducible refine Kd.C_drew ?_))); (case side2 => rw [show t286.length = t264.length from (Kd.R_reads' HO_269002.out).1.symm]; exact (Kd.R_reads' HO_269002.out).2.1); rintro e w121 ⟨rfl, hb⟩; refine ⟨_, rfl, ?_⟩; have n0_ := Aside0.mk (Kd.R_below (by (with_reducible repeat (first | apply Kd.R_alloc | apply Kd.R_drewN | apply Kd.R_drew)); exact HO_253002.out) hb); have n1_ := Aside0.mk (Kd.R_below (by (with_reducible repeat (first | apply Kd.R_alloc | apply Kd.R_drewN | apply Kd.R_drew)); exact HO_259002.out) hb); have n2_ := Aside0.mk (Kd.R_below (by (with_reducible repeat (first | apply Kd.R_alloc | apply Kd.R_drewN | apply Kd.R_drew)); exact HO_269002.out) hb); have n3_ := Aside0.mk (blk_below (g := gb236) (o := .cells #[.int .i64 a0_0, .int .i64 a0_1, .slice A0_2 l0_2.length c0_2] 24 (0, 0)) (by (with_reducible repeat (first | refine blk_drewN ?_ _ | refine blk_drew ?_ | refine blk_alloc ?_ _)); exact BK236.out) hb); have n4_ := Aside0.mk (blk_below (g := gb252) (o := .cells #[.int .i64 t246, .int .i64 t247, .slice Ao29 t248.length co29] 28 (0, 0)) (by (with_reducible repeat (first | refine blk_drewN ?_ _ | refine blk_drew ?_ | refine blk_alloc ?_ _)); exact BK252.out) hb); have n5_ := Aside0.mk (blk_below (g := gb258) (o := .cells #[.int .i64 t253, .int .i64 t254, .slice Ao36 t281.length co36] 28 (0, 0)) (by (with_reducible repeat (first | refine blk_drewN ?_ _ | refine blk_drew ?_ | refine blk_alloc ?_ _)); exact BK258.out) hb); have n6_ := Aside0.mk (blk_below (g := gb268) (o := .cells #[.int .i64 t262, .int .i64 t263, .slice Ao46 t264.length co46] 28 (0, 0)) (by (with_reducible repeat (first | refine blk_drewN ?_ _ | refine blk_drew ?_ | refine blk_alloc ?_ _)); exact BK268.out) hb); have n7_ := Aside0.mk (below_step (by repeat (first | (with_reducible first | exact HB.out | apply below_alloc | apply pw_below_drewN | apply below_drew1 | refine below_set ?_ GE236.out | refine below_set ?_ GE252.out | refine below_set ?_ GE258.out | refine below_set ?_ GE268.out) | exact HB.out)) hb); clear HO_253002; clear HO_259002; clear HO_269002; clear BK236; clear BK252; clear BK258; clear BK268; clear HB; have HO_253002 := n0_; have HO_259002 := n1_; have HO_269002 := n2_; have BK236 := n3_; have BK252 := n4_; have BK258 := n5_; have BK268 := n6_; have HB := n7_; clear n0_ n1_ n2_ n3_ n4_ n5_ n6_ n7_; (try clear hb); (try clear hb2); (try clear hk); (try clear hi); have hnb122 := NB236_252.out; have hnc122 := NB252_236.out; have hnb123 := NB236_258.out; have hnc123 := NB258_236.out; have hcz124_0 : w121.cell? ⟨gb236, 0, none⟩ = some (.int .i64 a0_0) := (blk_cell BK236.out 0).trans rfl; have hcz124_1 : w121.cell? ⟨gb236, 1, none⟩ = some (.int .i64 a0_1) := (blk_cell BK236.out 1).trans rfl; have hcz124_2 : w121.cell? ⟨gb236, 2, none⟩ = some (.slice A0_2 l0_2.length c0_2) := (blk_cell BK236.out 2).trans rfl; have hfz124_0 := blk_frozen BK236.out 0; have hfz124_1 := blk_frozen BK236.out 1; have hfz124_2 := blk_frozen BK236.out 2) | ((with_reducible refine gate_callee (f := 14) rfl ?_); refine goesL_ (some 94) rfl rfl Try.func14 (by kernel_rfl) rfl #[.agg #[.int .i64 a0_0, .int .i64 a0_1, .slice A0_2 l0_2.length c0_2]] rfl (by (try simp only [List.map_toArray, List.map_cons, List.map_nil]); first | done | rfl | (simp only [List.length_drop, List.length_take]; rfl)) ?_; (with_reducible refine (laws_toTable.calls kj73 a0_0 a0_1 _ _ l0_2 t288 t289 t290 _ ?side1 ?side2 A111.out).mono ?_); (case side1 => repeat (first | exact (Kd.C_below HR0_2.out HB.out) | (with_reducible refine Kd.C_alloc ?_ _) | (with_reducible refine Kd.C_drewN ?_ _) | (with_reducible refine Kd.C_drew ?_))); (case side2 => exact HC0_2.out); rintro e w125 ⟨v291, rfl, ho0, hb⟩; refine ⟨_, rfl, ?_⟩; have n0_ := Aside0.mk (Kd.R_elder' (by (with_reducible repeat (first | apply Kd.R_alloc | apply Kd.R_drewN | apply Kd.R_drew)); exact HO_253002.out) (Kd.R_base ho0) hb); have n1_ := Aside0.mk (Kd.R_elder' (by (with_reducible repeat (first | apply Kd.R_alloc | apply Kd.R_drewN | apply Kd.R_drew)); exact HO_259002.out) (Kd.R_base ho0) hb); have n2_ := Aside0.mk (Kd.R_elder' (by (with_reducible repeat (first | apply Kd.R_alloc | apply Kd.R_drewN | apply Kd.R_drew)); exact HO_269002.out) (Kd.R_base ho0) hb); have n3_ := Aside0.mk (Kd.R_lower (Kd.R_new' (Kd.R_new' (Kd.R_new' ho0 (Kd.R_lt (by (with_reducible repeat (first | apply Kd.R_alloc | apply Kd.R_drewN | apply Kd.R_drew)); exact HO_253002.out))) (Kd.R_lt (by (with_reducible repeat (first | apply Kd.R_alloc | apply Kd.R_drewN | apply Kd.R_drew)); exact HO_259002.out))) (Kd.R_lt (by (with_reducible repeat (first | apply Kd.R_alloc | apply Kd.R_drewN | apply Kd.R_drew)); exact HO_269002.out))) (below_size (by repeat (first | (with_reducible first | exact HB.out | apply below_alloc | apply pw_below_drewN | apply below_drew1 | refine below_set ?_ GE236.out | refine below_set ?_ GE252.out | refine below_set ?_ GE258.out | refine below_set ?_ GE268.out) | exact HB.out)))); have n4_ := Aside0.mk (blk_below (g := gb236) (o := .cells #[.int .i64 a0_0, .int .i64 a0_1, .slice A0_2 l0_2.length c0_2] 24 (0, 0)) (by (with_reducible repeat (first | refine blk_drewN ?_ _ | refine blk_drew ?_ | refine blk_alloc ?_ _)); exact BK236.out) hb); have n5_ := Aside0.mk (blk_below (g := gb252) (o := .cells #[.int .i64 t246, .int .i64 t247, .slice Ao29 t248.length co29] 28 (0, 0)) (by (with_reducible repeat (first | refine blk_drewN ?_ _ | refine blk_drew ?_ | refine blk_alloc ?_ _)); exact BK252.out) hb); have n6_ := Aside0.mk (blk_below (g := gb258) (o := .cells #[.int .i64 t253, .int .i64 t254, .slice Ao36 t281.length co36] 28 (0, 0)) (by (with_reducible repeat (first | refine blk_drewN ?_ _ | refine blk_drew ?_ | refine blk_alloc ?_ _)); exact BK258.out) hb); have n7_ := Aside0.mk (blk_below (g := gb268) (o := .cells #[.int .i64 t262, .int .i64 t263, .slice Ao46 t264.length co46] 28 (0, 0)) (by (with_reducible repeat (first | refine blk_drewN ?_ _ | refine blk_drew ?_ | refine blk_alloc ?_ _)); exact BK268.out) hb); have n8_ := Aside0.mk (below_step (by repeat (first | (with_reducible first | exact HB.out | apply below_alloc | apply pw_below_drewN | apply below_drew1 | refine below_set ?_ GE236.out | refine below_set ?_ GE252.out | refine below_set ?_ GE258.out | refine below_set ?_ GE268.out) | exact HB.out)) hb); clear HO_253002; clear HO_259002; clear HO_269002; clear BK236; clear BK252; clear BK258; clear BK268; clear HB; have HO_253002 := n0_; have HO_259002 := n1_; have HO_269002 := n2_; have HO292 := n3_; have BK236 := n4_; have BK252 := n5_; have BK258 := n6_; have BK268 := n7_; have HB := n8_; clear n0_ n1_ n2_ n3_ n4_ n5_ n6_ n7_ n8_; (try clear hb); (try clear hb2); (try clear hk); (try clear hi); (try clear ho0)) | ((with_reducible refine gate_callee (f := 38) rfl ?_); refine goesL_ (some 96) rfl rfl Try.func38 (by kernel_rfl) rfl #[.slice A1 l1.length c1] rfl (by (try simp only [List.map_toArray, List.map_cons, List.map_nil]); first | done | rfl | (simp only [List.length_drop, List.length_take]; rfl)) ?_; (with_reducible refine (laws_toIntS.calls kj73 _ _ l1 t293 _ ?side1 ?side2 A112.out).mono ?_); (case side1 => repeat (first | exact (Kd.C_below HR1.out HB.out) | (with_reducible refine Kd.C_alloc ?_ _) | (with_reducible refine Kd.C_drewN ?_ _) | (with_reducible refine Kd.C_drew ?_))); (case side2 => exact HC1.out); rintro e w126 ⟨v294, rfl, ho0, hb⟩; refine ⟨_, rfl, ?_⟩; have n0_ := Aside0.mk (Kd.R_elder' (by (with_reducible repeat (first | apply Kd.R_alloc | apply Kd.R_drewN | apply Kd.R_drew)); exact HO_253002.out) (Kd.R_base ho0) hb); have n1_ := Aside0.mk (Kd.R_elder' (by (with_reducible repeat (first | apply Kd.R_alloc | apply Kd.R_drewN | apply Kd.R_drew)); exact HO_259002.out) (Kd.R_base ho0) hb); have n2_ := Aside0.mk (Kd.R_elder' (by (with_reducible repeat (first | apply Kd.R_alloc | apply Kd.R_drewN | apply Kd.R_drew)); exact HO_269002.out) (Kd.R_base ho0) hb); have n3_ := Aside0.mk (Kd.R_elder' (by (with_reducible repeat (first | apply Kd.R_alloc | apply Kd.R_drewN | apply Kd.R_drew)); exact HO292.out) (Kd.R_base ho0) hb); have n4_ := Aside0.mk (Kd.R_lower (Kd.R_new' (Kd.R_new' (Kd.R_new' (Kd.R_new' ho0 (Kd.R_lt (by (with_reducible repeat (first | apply Kd.R_alloc | apply Kd.R_drewN | apply Kd.R_drew)); exact HO_253002.out))) (Kd.R_lt (by (with_reducible repeat (first | apply Kd.R_alloc | apply Kd.R_drewN | apply Kd.R_drew)); exact HO_259002.out))) (Kd.R_lt (by (with_reducible repeat (first | apply Kd.R_alloc | apply Kd.R_drewN | apply Kd.R_drew)); exact HO_269002.out))) (Kd.R_lt (by (with_reducible repeat (first | apply Kd.R_alloc | apply Kd.R_drewN | apply Kd.R_drew)); exact HO292.out))) (below_size (by repeat (first | (with_reducible first | exact HB.out | apply below_alloc | apply pw_below_drewN | apply below_drew1 | refine below_set ?_ GE236.out | refine below_set ?_ GE252.out | refine below_set ?_ GE258.out | refine below_set ?_ GE268.out) | exact HB.out)))); have n5_ := Aside0.mk (blk_below (g := gb236) (o := .cells #[.int .i64 a0_0, .int .i64 a0_1, .slice A0_2 l0_2.length c0_2] 24 (0, 0)) (by (with_reducible repeat (first | refine blk_drewN ?_ _ | refine blk_drew ?_ | refine blk_alloc ?_ _)); exact BK236.out) hb); have n6_ := Aside0.mk (blk_below (g := gb252) (o := .cells #[.int .i64 t246, .int .i64 t247, .slice Ao29 t248.length co29] 28 (0, 0)) (by (with_reducible repeat (first | refine blk_drewN ?_ _ | refine blk_drew ?_ | refine blk_alloc ?_ _)); exact BK252.out) hb); have n7_ := Aside0.mk (blk_below (g := gb258) (o := .cells #[.int .i64 t253, .int .i64 t254, .slice Ao36 t281.length co36] 28 (0, 0)) (by (with_reducible repeat (first | refine blk_drewN ?_ _ | refine blk_drew ?_ | refine blk_alloc ?_ _)); exact BK258.out) hb); have n8_ := Aside0.mk (blk_below (g := gb268) (o := .cells #[.int .i64 t262, .int .i64 t263, .slice Ao46 t264.length co46] 28 (0, 0)) (by (with_reducible repeat (first | refine blk_drewN ?_ _ | refine blk_drew ?_ | refine blk_alloc ?_ _)); exact BK268.out) hb); have n9_ := Aside0.mk (below_step (by repeat (first | (with_reducible first | exact HB.out | apply below_alloc | apply pw_below_drewN | apply below_drew1 | refine below_set ?_ GE236.out | refine below_set ?_ GE252.out | refine below_set ?_ GE258.out | refine below_set ?_ GE268.out) | exact HB.out)) hb); clear HO_253002; clear HO_259002; clear HO_269002; clear HO292; clear BK236; clear BK252; clear BK258; clear BK268; clear HB; have HO_253002 := n0_; have HO_259002 := n1_; have HO_269002 := n2_; have HO292 := n3_; have HO295 := n4_; have BK236 := n5_; have BK252 := n6_; have BK258 := n7_; have BK268 := n8_; have HB := n9_; clear n0_ n1_ n2_ n3_ n4_ n5_ n6_ n7_ n8_ n9_; (try clear hb); (try clear hb2); (try clear hk); (try clear hi); (try clear ho0); obtain ⟨Ao127, co127, eo127⟩ := Kd.R_slice HO292.out; subst eo127; obtain ⟨Ao128, co128, eo128⟩ := Kd.R_slice HO295.out; subst eo128) | ((with_reducible refine gate_callee (f := 41) rfl ?_); refine goesL_ (some 97) rfl rfl Try.func41 (by kernel_rfl) rfl #[.agg #[.int .i64 t288, .int .i64 t289, .slice Ao127 t290.length co127], .slice Ao128 t293.length co128] rfl (by (try simp only [List.map_toArray, List.map_cons, List.map_nil]); first | done | rfl | (simp only [List.length_drop, List.length_take]; rfl)) ?_; (with_reducible refine (impl_CoverOf.calls kj73 t288 t289 _ _ t290 _ _ t293 t296 t297 t298 t301 _ ?side1 ?side2 ?side3 ?side4 A113.out).mono ?_); (case side1 => repeat (first | exact (Kd.R_reads' HO292.out).2.2 | (with_reducible refine Kd.C_alloc ?_ _) | (with_reducible refine Kd.C_drewN ?_ _) | (with_reducible refine Kd.C_drew ?_))); (case side2 => exact (Kd.R_reads' HO292.out).2.1); (case side3 => repeat (first | exact (Kd.R_reads' HO295.out).2.2 | (with_reducible refine Kd.C_alloc ?_ _) | (with_reducible refine Kd.C_drewN ?_ _) | (with_reducible refine Kd.C_drew ?_))); (case side4 => exact (Kd.R_reads' HO295.out).2.1); rintro e w129 ⟨v299, rfl, ho0, hb⟩; refine ⟨_, rfl, ?_⟩; have n0_ := Aside0.mk (Kd.R_elder' (by (with_reducible repeat (first | apply Kd.R_alloc | apply Kd.R_drewN | apply Kd.R_drew)); exact HO_253002.out) (Kd.R_base ho0) hb); have n1_ := Aside0.mk (Kd.R_elder' (by (with_reducible repeat (first | apply Kd.R_alloc | apply Kd.R_drewN | apply Kd.R_drew)); exact HO_259002.out) (Kd.R_base ho0) hb); have n2_ := Aside0.mk (Kd.R_elder' (by (with_reducible repeat (first | apply Kd.R_alloc | apply Kd.R_drewN | apply Kd.R_drew)); exact HO_269002.out) (Kd.R_base ho0) hb); have n3_ := Aside0.mk (Kd.R_elder' (by (with_reducible repeat (first | apply Kd.R_alloc | apply Kd.R_drewN | apply Kd.R_drew)); exact HO292.out) (Kd.R_base ho0) hb); have n4_ := Aside0.mk (Kd.R_elder' (by (with_reducible repeat (first | apply Kd.R_alloc | apply Kd.R_drewN | apply Kd.R_drew)); exact HO295.out) (Kd.R_base ho0) hb); have n5_ := Aside0.mk (Kd.R_lower (Kd.R_new' (Kd.R_new' (Kd.R_new' (Kd.R_new' (Kd.R_new' ho0 (Kd.R_lt (by (with_reducible repeat (first | apply Kd.R_alloc | apply Kd.R_drewN | apply Kd.R_drew)); exact HO_253002.out))) (Kd.R_lt (by (with_reducible repeat (first | apply Kd.R_alloc | apply Kd.R_drewN | apply Kd.R_drew)); exact HO_259002.out))) (Kd.R_lt (by (with_reducible repeat (first | apply Kd.R_alloc | apply Kd.R_drewN | apply Kd.R_drew)); exact HO_269002.out))) (Kd.R_lt (by (with_reducible repeat (first | apply Kd.R_alloc | apply Kd.R_drewN | apply Kd.R_drew)); exact HO292.out))) (Kd.R_lt (by (with_reducible repeat (first | apply Kd.R_alloc | apply Kd.R_drewN | apply Kd.R_drew)); exact HO295.out))) (below_size (by repeat (first | (with_reducible first | exact HB.out | apply below_alloc | apply pw_below_drewN | apply below_drew1 | refine below_set ?_ GE236.out | refine below_set ?_ GE252.out | refine below_set ?_ GE258.out | refine below_set ?_ GE268.out) | exact HB.out)))); have n6_ := Aside0.mk (blk_below (g := gb236) (o := .cells #[.int .i64 a0_0, .int .i64 a0_1, .slice A0_2 l0_2.length c0_2] 24 (0, 0)) (by (with_reducible repeat (first | refine blk_drewN ?_ _ | refine blk_drew ?_ | refine blk_alloc ?_ _)); exact BK236.out) hb); have n7_ := Aside0.mk (blk_below (g := gb252) (o := .cells #[.int .i64 t246, .int .i64 t247, .slice Ao29 t248.length co29] 28 (0, 0)) (by (with_reducible repeat (first | refine blk_drewN ?_ _ | refine blk_drew ?_ | refine blk_alloc ?_ _)); exact BK252.out) hb); have n8_ := Aside0.mk (blk_below (g := gb258) (o := .cells #[.int .i64 t253, .int .i64 t254, .slice Ao36 t281.length co36] 28 (0, 0)) (by (with_reducible repeat (first | refine blk_drewN ?_ _ | refine blk_drew ?_ | refine blk_alloc ?_ _)); exact BK258.out) hb); have n9_ := Aside0.mk (blk_below (g := gb268) (o := .cells #[.int .i64 t262, .int .i64 t263, .slice Ao46 t264.length co46] 28 (0, 0)) (by (with_reducible repeat (first | refine blk_drewN ?_ _ | refine blk_drew ?_ | refine blk_alloc ?_ _)); exact BK268.out) hb); have n10_ := Aside0.mk (below_step (by repeat (first | (with_reducible first | exact HB.out | apply below_alloc | apply pw_below_drewN | apply below_drew1 | refine below_set ?_ GE236.out | refine below_set ?_ GE252.out | refine below_set ?_ GE258.out | refine below_set ?_ GE268.out) | exact HB.out)) hb); clear HO_253002; clear HO_259002; clear HO_269002; clear HO292; clear HO295; clear BK236; clear BK252; clear BK258; clear BK268; clear HB; have HO_253002 := n0_; have HO_259002 := n1_; have HO_269002 := n2_; have HO292 := n3_; have HO295 := n4_; have HO300 := n5_; have BK236 := n6_; have BK252 := n7_; have BK258 := n8_; have BK268 := n9_; have HB := n10_; clear n0_ n1_ n2_ n3_ n4_ n5_ n6_ n7_ n8_ n9_ n10_; (try clear hb); (try clear hb2); (try clear hk); (try clear hi); (try clear ho0)) | ((with_reducible refine gate_dst (N := 15) rfl ?_); refine box_event ?hg (N := 15) ?hd (cs := #[.int .i64 0, .int .i64 0, .slice none 0 0]) (t := 28) ?hr ?_; (case hd => rfl); (case hg => rfl); (case hr => first | (go_simp; done) | (go_simp; rfl)); intro gb302 hg w130 hbox hb; have n0_ := Aside0.mk (Kd.R_below (by (with_reducible repeat (first | apply Kd.R_alloc | apply Kd.R_drewN | apply Kd.R_drew)); exact HO_253002.out) hb); have n1_ := Aside0.mk (Kd.R_below (by (with_reducible repeat (first | apply Kd.R_alloc | apply Kd.R_drewN | apply Kd.R_drew)); exact HO_259002.out) hb); have n2_ := Aside0.mk (Kd.R_below (by (with_reducible repeat (first | apply Kd.R_alloc | apply Kd.R_drewN | apply Kd.R_drew)); exact HO_269002.out) hb); have n3_ := Aside0.mk (Kd.R_below (by (with_reducible repeat (first | apply Kd.R_alloc | apply Kd.R_drewN | apply Kd.R_drew)); exact HO292.out) hb); have n4_ := Aside0.mk (Kd.R_below (by (with_reducible repeat (first | apply Kd.R_alloc | apply Kd.R_drewN | apply Kd.R_drew)); exact HO295.out) hb); have n5_ := Aside0.mk (Kd.R_below (by (with_reducible repeat (first | apply Kd.R_alloc | apply Kd.R_drewN | apply Kd.R_drew)); exact HO300.out) hb); have n6_ := Aside0.mk (blk_below (g := gb236) (o := .cells #[.int .i64 a0_0, .int .i64 a0_1, .slice A0_2 l0_2.length c0_2] 24 (0, 0)) (by (with_reducible repeat (first | refine blk_drewN ?_ _ | refine blk_drew ?_ | refine blk_alloc ?_ _)); exact BK236.out) hb); have n7_ := Aside0.mk (blk_below (g := gb252) (o := .cells #[.int .i64 t246, .int .i64 t247, .slice Ao29 t248.length co29] 28 (0, 0)) (by (with_reducible repeat (first | refine blk_drewN ?_ _ | refine blk_drew ?_ | refine blk_alloc ?_ _)); exact BK252.out) hb); have n8_ := Aside0.mk (blk_below (g := gb258) (o := .cells #[.int .i64 t253, .int .i64 t254, .slice Ao36 t281.length co36] 28 (0, 0)) (by (with_reducible repeat (first | refine blk_drewN ?_ _ | refine blk_drew ?_ | refine blk_alloc ?_ _)); exact BK258.out) hb); have n9_ := Aside0.mk (blk_below (g := gb268) (o := .cells #[.int .i64 t262, .int .i64 t263, .slice Ao46 t264.length co46] 28 (0, 0)) (by (with_reducible repeat (first | refine blk_drewN ?_ _ | refine blk_drew ?_ | refine blk_alloc ?_ _)); exact BK268.out) hb); have n10_ := Aside0.mk (below_step (by repeat (first | (with_reducible first | exact HB.out | apply below_alloc | apply pw_below_drewN | apply below_drew1 | refine below_set ?_ GE236.out | refine below_set ?_ GE252.out | refine below_set ?_ GE258.out | refine below_set ?_ GE268.out) | exact HB.out)) hb); have n11_ := Aside0.mk (hbox); have n12_ := Aside0.mk ((by rw [hg]; exact (below_size (by repeat (first | (with_reducible first | exact HB.out | apply below_alloc | apply pw_below_drewN | apply below_drew1 | refine below_set ?_ GE236.out | refine below_set ?_ GE252.out | refine below_set ?_ GE258.out | refine below_set ?_ GE268.out) | exact HB.out))) : w.heap.size ≤ gb302)); have n13_ := Aside0.mk ((by rw [hg]; exact (below_size (by repeat (first | (with_reducible first | exact HB.out | apply below_alloc | apply pw_below_drewN | apply below_drew1 | refine below_set ?_ GE236.out | refine below_set ?_ GE252.out | refine below_set ?_ GE258.out | refine below_set ?_ GE268.out) | exact HB.out))) : w.heap.size ≤ gb302)); have n14_ := Aside0.mk ((by rw [hg]; exact Nat.ne_of_lt (blk_lt (g := gb236) (o := .cells #[.int .i64 a0_0, .int .i64 a0_1, .slice A0_2 l0_2.length c0_2] 24 (0, 0)) (by (with_reducible repeat (first | refine blk_drewN ?_ _ | refine blk_drew ?_ | refine blk_alloc ?_ _)); exact BK236.out)) : gb236 ≠ gb302)); have n15_ := Aside0.mk ((by rw [hg]; exact Nat.ne_of_gt (blk_lt (g := gb236) (o := .cells #[.int .i64 a0_0, .int .i64 a0_1, .slice A0_2 l0_2.length c0_2] 24 (0, 0)) (by (with_reducible repeat (first | refine blk_drewN ?_ _ | refine blk_drew ?_ | refine blk_alloc ?_ _)); exact BK236.out)) : gb302 ≠ gb236)); have n16_ := Aside0.mk ((by rw [hg]; exact Nat.ne_of_lt (blk_lt (g := gb252) (o := .cells #[.int .i64 t246, .int .i64 t247, .slice Ao29 t248.length co29] 28 (0, 0)) (by (with_reducible repeat (first | refine blk_drewN ?_ _ | refine blk_drew ?_ | refine blk_alloc ?_ _)); exact BK252.out)) : gb252 ≠ gb302)); have n17_ := Aside0.mk ((by rw [hg]; exact Nat.ne_of_gt (blk_lt (g := gb252) (o := .cells #[.int .i64 t246, .int .i64 t247, .slice Ao29 t248.length co29] 28 (0, 0)) (by (with_reducible repeat (first | refine blk_drewN ?_ _ | refine blk_drew ?_ | refine blk_alloc ?_ _)); exact BK252.out)) : gb302 ≠ gb252)); have n18_ := Aside0.mk ((by rw [hg]; exact Nat.ne_of_lt (blk_lt (g := gb258) (o := .cells #[.int .i64 t253, .int .i64 t254, .slice Ao36 t281.length co36] 28 (0, 0)) (by (with_reducible repeat (first | refine blk_drewN ?_ _ | refine blk_drew ?_ | refine blk_alloc ?_ _)); exact BK258.out)) : gb258 ≠ gb302)); have n19_ := Aside0.mk ((by rw [hg]; exact Nat.ne_of_gt (blk_lt (g := gb258) (o := .cells #[.int .i64 t253, .int .i64 t254, .slice Ao36 t281.length co36] 28 (0, 0)) (by (with_reducible repeat (first | refine blk_drewN ?_ _ | refine blk_drew ?_ | refine blk_alloc ?_ _)); exact BK258.out)) : gb302 ≠ gb258)); have n20_ := Aside0.mk ((by rw [hg]; exact Nat.ne_of_lt (blk_lt (g := gb268) (o := .cells #[.int .i64 t262, .int .i64 t263, .slice Ao46 t264.length co46] 28 (0, 0)) (by (with_reducible repeat (first | refine blk_drewN ?_ _ | refine blk_drew ?_ | refine blk_alloc ?_ _)); exact BK268.out)) : gb268 ≠ gb302)); have n21_ := Aside0.mk ((by rw [hg]; exact Nat.ne_of_gt (blk_lt (g := gb268) (o := .cells #[.int .i64 t262, .int .i64 t263, .slice Ao46 t264.length co46] 28 (0, 0)) (by (with_reducible repeat (first | refine blk_drewN ?_ _ | refine blk_drew ?_ | refine blk_alloc ?_ _)); exact BK268.out)) : gb302 ≠ gb268)); clear HO_253002; clear HO_259002; clear HO_269002; clear HO292; clear HO295; clear HO300; clear BK236; clear BK252; clear BK258; clear BK268; clear HB; have HO_253002 := n0_; have HO_259002 := n1_; have HO_269002 := n2_; have HO292 := n3_; have HO295 := n4_; have HO300 := n5_; have BK236 := n6_; have BK252 := n7_; have BK258 := n8_; have BK268 := n9_; have HB := n10_; have BK302 := n11_; have GW302 := n12_; have GE302 := n13_; have NB236_302 := n14_; have NB302_236 := n15_; have NB252_302 := n16_; have NB302_252 := n17_; have NB258_302 := n18_; have NB302_258 := n19_; have NB268_302 := n20_; have NB302_268 := n21_; clear n0_ n1_ n2_ n3_ n4_ n5_ n6_ n7_ n8_ n9_ n10_ n11_ n12_ n13_ n14_ n15_ n16_ n17_ n18_ n19_ n20_ n21_; clear hb hbox hg; have hnb131 := NB302_236.out; have hnc131 := NB236_302.out; have hnb132 := NB302_252.out; have hnc132 := NB252_302.out; have hnb133 := NB302_258.out; have hnc133 := NB258_302.out; have hnb134 := NB302_268.out; have hnc134 := NB268_302.out; have hcz135_0 : w130.cell? ⟨gb302, 0, none⟩ = some (.int .i64 0) := (blk_cell BK302.out 0).trans rfl; have hcz135_1 : w130.cell? ⟨gb302, 1, none⟩ = some (.int .i64 0) := (blk_cell BK302.out 1).trans rfl; have hcz135_2 : w130.cell? ⟨gb302, 2, none⟩ = some (.slice none 0 0) := (blk_cell BK302.out 2).trans rfl; have hfz135_0 := blk_frozen BK302.out 0; have hfz135_1 := blk_frozen BK302.out 1; have hfz135_2 := blk_frozen BK302.out 2; obtain ⟨Ao136, co136, eo136⟩ := Kd.R_slice HO300.out; subst eo136))
                          (try simp only [Act.put, List.setIfInBounds_toArray, List.set_cons_zero, List.set_cons_succ])
                          go_cut [108] (fun v108 wc => ∃ (kq : Nat) (x108_113 : Bool), v108 = .bool x108_113 ∧ Aside0 (laws_FnExactCoverOf.j2 kq t285 x108_113 t262 t263 t286 = some true) ∧ Aside0 (kq ≤ kj73) ∧ Aside0 (Kd.R (Kd.int .i64) 3 wc w.heap.size (fun k_ => some k_ ≠ ((.slice Ao36 t281.length co36) : Value).ownBlock ∧ some k_ ≠ ((.slice Ao46 t264.length co46) : Value).ownBlock ∧ some k_ ≠ ((.slice Ao136 t298.length co136) : Value).ownBlock) (.slice Ao29 t248.length co29) t248) ∧ Aside0 (Kd.R (Kd.int .i64) 3 wc w.heap.size (fun k_ => some k_ ≠ ((.slice Ao29 t248.length co29) : Value).ownBlock ∧ some k_ ≠ ((.slice Ao46 t264.length co46) : Value).ownBlock ∧ some k_ ≠ ((.slice Ao136 t298.length co136) : Value).ownBlock) (.slice Ao36 t281.length co36) t281) ∧ Aside0 (Kd.R (Kd.int .i64) 3 wc w.heap.size (fun k_ => some k_ ≠ ((.slice Ao29 t248.length co29) : Value).ownBlock ∧ some k_ ≠ ((.slice Ao36 t281.length co36) : Value).ownBlock ∧ some k_ ≠ ((.slice Ao136 t298.length co136) : Value).ownBlock) (.slice Ao46 t264.length co46) t286) ∧ Aside0 (Kd.R (Kd.int .i64) 3 wc w.heap.size (fun k_ => some k_ ≠ ((.slice Ao29 t248.length co29) : Value).ownBlock ∧ some k_ ≠ ((.slice Ao36 t281.length co36) : Value).ownBlock ∧ some k_ ≠ ((.slice Ao46 t264.length co46) : Value).ownBlock) (.slice Ao136 t298.length co136) t298) ∧ Aside0 (wc.heap[gb236]? = some (.cells #[.int .i64 a0_0, .int .i64 a0_1, (.slice A0_2 l0_2.length c0_2)] 24 (0, 0))) ∧ Aside0 (wc.heap[gb252]? = some (.cells #[.int .i64 t246, .int .i64 t247, (.slice Ao29 t248.length co29)] 28 (0, 0))) ∧ Aside0 (wc.heap[gb258]? = some (.cells #[.int .i64 t253, .int .i64 t254, (.slice Ao36 t281.length co36)] 28 (0, 0))) ∧ Aside0 (wc.heap[gb268]? = some (.cells #[.int .i64 t262, .int .i64 t263, (.slice Ao46 t264.length co46)] 28 (0, 0))) ∧ Aside0 (wc.heap[gb302]? = some (.cells #[.int .i64 t296, .int .i64 t297, (.slice Ao136 t298.length co136)] 28 (0, 0))) ∧ Aside0 (Below w.heap.size w wc))
                          case first =>
                            have H := HC114.out
                            clear HC114
                            replace H := Option.bind_eq_some_iff.mp H
                            obtain ⟨t303, A1370, H⟩ := H
                            replace H : (if t303 = true then (laws_FnExactCoverOf.j2 kj73 t285 (t301 != t251) t262 t263 t286) else (laws_FnExactCoverOf.j2 kj73 t285 true t262 t263 t286)) = some true := H
                            have A137 := Aside0.mk A1370
                            clear A1370
                            by_cases c138 : t303 = true
                            · subst c138
                              have H1 : (laws_FnExactCoverOf.j2 kj73 t285 (t301 != t251) t262 t263 t286) = some true := by first | exact rfl | (rw [if_pos rfl] at H; exact H)
                              clear H
                              have H := H1
                              clear H1
                              have H' := Aside0.mk H
                              clear H
                              have hnb139 := NB302_236.out
                              have hnc139 := NB236_302.out
                              have hnb140 := NB302_252.out
                              have hnc140 := NB252_302.out
                              have hnb141 := NB302_258.out
                              have hnc141 := NB258_302.out
                              have hnb142 := NB302_268.out
                              have hnc142 := NB268_302.out
                              have hcz143_0 : w130.cell? ⟨gb302, 0, none⟩ = some (.int .i64 0) := (blk_cell BK302.out 0).trans rfl
                              have hcz143_1 : w130.cell? ⟨gb302, 1, none⟩ = some (.int .i64 0) := (blk_cell BK302.out 1).trans rfl
                              have hcz143_2 : w130.cell? ⟨gb302, 2, none⟩ = some (.slice none 0 0) := (blk_cell BK302.out 2).trans rfl
                              have hfz143_0 := blk_frozen BK302.out 0
                              have hfz143_1 := blk_frozen BK302.out 1
                              have hfz143_2 := blk_frozen BK302.out 2
                              have hnb144 := NB252_236.out
                              have hnc144 := NB236_252.out
                              have hnb145 := NB252_258.out
                              have hnc145 := NB258_252.out
                              have hnb146 := NB252_268.out
                              have hnc146 := NB268_252.out
                              have hcz147_0 : w130.cell? ⟨gb252, 0, none⟩ = some (.int .i64 t246) := (blk_cell BK252.out 0).trans rfl
                              have hcz147_1 : w130.cell? ⟨gb252, 1, none⟩ = some (.int .i64 t247) := (blk_cell BK252.out 1).trans rfl
                              have hcz147_2 : w130.cell? ⟨gb252, 2, none⟩ = some (.slice Ao29 t248.length co29) := (blk_cell BK252.out 2).trans rfl
                              have hfz147_0 := blk_frozen BK252.out 0
                              have hfz147_1 := blk_frozen BK252.out 1
                              have hfz147_2 := blk_frozen BK252.out 2
                              go_wp2_with (first | ((with_reducible refine gate_callee (f := 17) rfl ?_); refine goesL_ (some 102) rfl rfl Try.func17 (by kernel_rfl) rfl #[.agg #[.int .i64 t296, .int .i64 t297, .slice Ao136 t298.length co136], .agg #[.int .i64 t246, .int .i64 t247, .slice Ao29 t248.length co29]] rfl (by (try simp only [List.map_toArray, List.map_cons, List.map_nil]); first | done | rfl | (simp only [List.length_drop, List.length_take]; rfl)) ?_; (with_reducible refine (laws_eqTable.calls kj73 t296 t297 _ _ t298 t246 t247 _ _ t248 true _ ?side1 ?side2 ?side3 ?side4 A137.out).mono ?_); (case side1 => refine (Kd.R_reads' (e := 3) (base := w.heap.size) (ok := fun k_ => (((((True ∧ some k_ ≠ (.slice Ao29 t248.length co29 : Value).ownBlock) ∧ some k_ ≠ (.slice Ao36 t281.length co36 : Value).ownBlock) ∧ some k_ ≠ (.slice Ao46 t264.length co46 : Value).ownBlock) ∧ some k_ ≠ (.slice Ao127 t290.length co127 : Value).ownBlock) ∧ some k_ ≠ (.slice Ao128 t293.length co128 : Value).ownBlock)) (n := t298.length) (c := co136) ?_).2.2; exact (by (with_reducible repeat (first | apply Kd.R_alloc | apply Kd.R_drewN | apply Kd.R_drew)); exact (Kd.R_mono (Kd.R_far (p := ⟨gb302, 2, none⟩) (Kd.R_far (p := ⟨gb302, 1, none⟩) (Kd.R_far (p := ⟨gb302, 0, none⟩) (Kd.R_types HO300.out BK302.out (by decide)) (fun _ hk => hk.2) (.int .i64 t296)) (fun _ hk => hk.2) (.int .i64 t297)) (fun _ hk => hk.2) (.slice Ao136 t298.length co136)) (fun _ h_ => h_.1)))); (case side2 => exact (Kd.R_reads' HO300.out).2.1); (case side3 => refine (Kd.R_reads' (e := 3) (base := w.heap.size) (ok := fun k_ => ((((some k_ ≠ (.slice Ao36 t281.length co36 : Value).ownBlock ∧ some k_ ≠ (.slice Ao46 t264.length co46 : Value).ownBlock) ∧ some k_ ≠ (.slice Ao127 t290.length co127 : Value).ownBlock) ∧ some k_ ≠ (.slice Ao128 t293.length co128 : Value).ownBlock) ∧ some k_ ≠ (.slice Ao136 t298.length co136 : Value).ownBlock)) (n := t248.length) (c := co29) ?_).2.2; exact (by (with_reducible repeat (first | apply Kd.R_alloc | apply Kd.R_drewN | apply Kd.R_drew)); exact (Kd.R_mono (Kd.R_far (p := ⟨gb302, 2, none⟩) (Kd.R_far (p := ⟨gb302, 1, none⟩) (Kd.R_far (p := ⟨gb302, 0, none⟩) (Kd.R_types HO_253002.out BK302.out (by decide)) (fun _ hk => hk.2) (.int .i64 t296)) (fun _ hk => hk.2) (.int .i64 t297)) (fun _ hk => hk.2) (.slice Ao136 t298.length co136)) (fun _ h_ => h_.1)))); (case side4 => exact (Kd.R_reads' HO_253002.out).2.1); rintro e w148 ⟨rfl, hb⟩; refine ⟨_, rfl, ?_⟩; have n0_ := Aside0.mk (Kd.R_below (by (with_reducible repeat (first | apply Kd.R_alloc | apply Kd.R_drewN | apply Kd.R_drew)); exact (Kd.R_mono (Kd.R_far (p := ⟨gb302, 2, none⟩) (Kd.R_far (p := ⟨gb302, 1, none⟩) (Kd.R_far (p := ⟨gb302, 0, none⟩) (Kd.R_types HO_253002.out BK302.out (by decide)) (fun _ hk => hk.2) (.int .i64 t296)) (fun _ hk => hk.2) (.int .i64 t297)) (fun _ hk => hk.2) (.slice Ao136 t298.length co136)) (fun _ h_ => h_.1))) hb); have n1_ := Aside0.mk (Kd.R_below (by (with_reducible repeat (first | apply Kd.R_alloc | apply Kd.R_drewN | apply Kd.R_drew)); exact (Kd.R_mono (Kd.R_far (p := ⟨gb302, 2, none⟩) (Kd.R_far (p := ⟨gb302, 1, none⟩) (Kd.R_far (p := ⟨gb302, 0, none⟩) (Kd.R_types HO_259002.out BK302.out (by decide)) (fun _ hk => hk.2) (.int .i64 t296)) (fun _ hk => hk.2) (.int .i64 t297)) (fun _ hk => hk.2) (.slice Ao136 t298.length co136)) (fun _ h_ => h_.1))) hb); have n2_ := Aside0.mk (Kd.R_below (by (with_reducible repeat (first | apply Kd.R_alloc | apply Kd.R_drewN | apply Kd.R_drew)); exact (Kd.R_mono (Kd.R_far (p := ⟨gb302, 2, none⟩) (Kd.R_far (p := ⟨gb302, 1, none⟩) (Kd.R_far (p := ⟨gb302, 0, none⟩) (Kd.R_types HO_269002.out BK302.out (by decide)) (fun _ hk => hk.2) (.int .i64 t296)) (fun _ hk => hk.2) (.int .i64 t297)) (fun _ hk => hk.2) (.slice Ao136 t298.length co136)) (fun _ h_ => h_.1))) hb); have n3_ := Aside0.mk (Kd.R_below (by (with_reducible repeat (first | apply Kd.R_alloc | apply Kd.R_drewN | apply Kd.R_drew)); exact (Kd.R_mono (Kd.R_far (p := ⟨gb302, 2, none⟩) (Kd.R_far (p := ⟨gb302, 1, none⟩) (Kd.R_far (p := ⟨gb302, 0, none⟩) (Kd.R_types HO292.out BK302.out (by decide)) (fun _ hk => hk.2) (.int .i64 t296)) (fun _ hk => hk.2) (.int .i64 t297)) (fun _ hk => hk.2) (.slice Ao136 t298.length co136)) (fun _ h_ => h_.1))) hb); have n4_ := Aside0.mk (Kd.R_below (by (with_reducible repeat (first | apply Kd.R_alloc | apply Kd.R_drewN | apply Kd.R_drew)); exact (Kd.R_mono (Kd.R_far (p := ⟨gb302, 2, none⟩) (Kd.R_far (p := ⟨gb302, 1, none⟩) (Kd.R_far (p := ⟨gb302, 0, none⟩) (Kd.R_types HO295.out BK302.out (by decide)) (fun _ hk => hk.2) (.int .i64 t296)) (fun _ hk => hk.2) (.int .i64 t297)) (fun _ hk => hk.2) (.slice Ao136 t298.length co136)) (fun _ h_ => h_.1))) hb); have n5_ := Aside0.mk (Kd.R_below (by (with_reducible repeat (first | apply Kd.R_alloc | apply Kd.R_drewN | apply Kd.R_drew)); exact (Kd.R_mono (Kd.R_far (p := ⟨gb302, 2, none⟩) (Kd.R_far (p := ⟨gb302, 1, none⟩) (Kd.R_far (p := ⟨gb302, 0, none⟩) (Kd.R_types HO300.out BK302.out (by decide)) (fun _ hk => hk.2) (.int .i64 t296)) (fun _ hk => hk.2) (.int .i64 t297)) (fun _ hk => hk.2) (.slice Ao136 t298.length co136)) (fun _ h_ => h_.1))) hb); have n6_ := Aside0.mk (blk_below (g := gb236) (o := .cells #[.int .i64 a0_0, .int .i64 a0_1, .slice A0_2 l0_2.length c0_2] 24 (0, 0)) (by (with_reducible repeat (first | refine blk_drewN ?_ _ | refine blk_drew ?_ | refine blk_alloc ?_ _)); refine blk_far ?_ NB236_302.out _; (with_reducible repeat (first | refine blk_drewN ?_ _ | refine blk_drew ?_ | refine blk_alloc ?_ _)); refine blk_far ?_ NB236_302.out _; (with_reducible repeat (first | refine blk_drewN ?_ _ | refine blk_drew ?_ | refine blk_alloc ?_ _)); refine blk_far ?_ NB236_302.out _; (with_reducible repeat (first | refine blk_drewN ?_ _ | refine blk_drew ?_ | refine blk_alloc ?_ _)); exact BK236.out) hb); have n7_ := Aside0.mk (blk_below (g := gb252) (o := .cells #[.int .i64 t246, .int .i64 t247, .slice Ao29 t248.length co29] 28 (0, 0)) (by (with_reducible repeat (first | refine blk_drewN ?_ _ | refine blk_drew ?_ | refine blk_alloc ?_ _)); refine blk_far ?_ NB252_302.out _; (with_reducible repeat (first | refine blk_drewN ?_ _ | refine blk_drew ?_ | refine blk_alloc ?_ _)); refine blk_far ?_ NB252_302.out _; (with_reducible repeat (first | refine blk_drewN ?_ _ | refine blk_drew ?_ | refine blk_alloc ?_ _)); refine blk_far ?_ NB252_302.out _; (with_reducible repeat (first | refine blk_drewN ?_ _ | refine blk_drew ?_ | refine blk_alloc ?_ _)); exact BK252.out) hb); have n8_ := Aside0.mk (blk_below (g := gb258) (o := .cells #[.int .i64 t253, .int .i64 t254, .slice Ao36 t281.length co36] 28 (0, 0)) (by (with_reducible repeat (first | refine blk_drewN ?_ _ | refine blk_drew ?_ | refine blk_alloc ?_ _)); refine blk_far ?_ NB258_302.out _; (with_reducible repeat (first | refine blk_drewN ?_ _ | refine blk_drew ?_ | refine blk_alloc ?_ _)); refine blk_far ?_ NB258_302.out _; (with_reducible repeat (first | refine blk_drewN ?_ _ | refine blk_drew ?_ | refine blk_alloc ?_ _)); refine blk_far ?_ NB258_302.out _; (with_reducible repeat (first | refine blk_drewN ?_ _ | refine blk_drew ?_ | refine blk_alloc ?_ _)); exact BK258.out) hb); have n9_ := Aside0.mk (blk_below (g := gb268) (o := .cells #[.int .i64 t262, .int .i64 t263, .slice Ao46 t264.length co46] 28 (0, 0)) (by (with_reducible repeat (first | refine blk_drewN ?_ _ | refine blk_drew ?_ | refine blk_alloc ?_ _)); refine blk_far ?_ NB268_302.out _; (with_reducible repeat (first | refine blk_drewN ?_ _ | refine blk_drew ?_ | refine blk_alloc ?_ _)); refine blk_far ?_ NB268_302.out _; (with_reducible repeat (first | refine blk_drewN ?_ _ | refine blk_drew ?_ | refine blk_alloc ?_ _)); refine blk_far ?_ NB268_302.out _; (with_reducible repeat (first | refine blk_drewN ?_ _ | refine blk_drew ?_ | refine blk_alloc ?_ _)); exact BK268.out) hb); have n10_ := Aside0.mk (blk_below (g := gb302) (o := .cells #[.int .i64 t296, .int .i64 t297, .slice Ao136 t298.length co136] 28 (0, 0)) (by (with_reducible repeat (first | refine blk_drewN ?_ _ | refine blk_drew ?_ | refine blk_alloc ?_ _)); refine blk_put (cs := #[.int .i64 t296, .int .i64 t297, .slice none 0 0]) ?_ 2 _ rfl; (with_reducible repeat (first | refine blk_drewN ?_ _ | refine blk_drew ?_ | refine blk_alloc ?_ _)); refine blk_put (cs := #[.int .i64 t296, .int .i64 0, .slice none 0 0]) ?_ 1 _ rfl; (with_reducible repeat (first | refine blk_drewN ?_ _ | refine blk_drew ?_ | refine blk_alloc ?_ _)); refine blk_put (cs := #[.int .i64 0, .int .i64 0, .slice none 0 0]) ?_ 0 _ rfl; (with_reducible repeat (first | refine blk_drewN ?_ _ | refine blk_drew ?_ | refine blk_alloc ?_ _)); exact BK302.out) hb); have n11_ := Aside0.mk (below_step (by repeat (first | (with_reducible first | exact HB.out | apply below_alloc | apply pw_below_drewN | apply below_drew1 | refine below_set ?_ GE236.out | refine below_set ?_ GE252.out | refine below_set ?_ GE258.out | refine below_set ?_ GE268.out | refine below_set ?_ GE302.out) | exact HB.out)) hb); clear HO_253002; clear HO_259002; clear HO_269002; clear HO292; clear HO295; clear HO300; clear BK236; clear BK252; clear BK258; clear BK268; clear BK302; clear HB; have HO_253002 := n0_; have HO_259002 := n1_; have HO_269002 := n2_; have HO292 := n3_; have HO295 := n4_; have HO300 := n5_; have BK236 := n6_; have BK252 := n7_; have BK258 := n8_; have BK268 := n9_; have BK302 := n10_; have HB := n11_; clear n0_ n1_ n2_ n3_ n4_ n5_ n6_ n7_ n8_ n9_ n10_ n11_; (try clear hb); (try clear hb2); (try clear hk); (try clear hi)))
                              go_meet
                              case rel => exact ⟨_, ((t301 != t251)), (by first | rfl | (simp; done) | (simp [*]; done)), H', ⟨by have := HJ15.out; have := HJ73.out; first | omega | exact Nat.le_refl _⟩, ⟨by (try simp only [hl259002_73]); (with_reducible repeat (first | apply Kd.R_alloc | apply Kd.R_drewN | apply Kd.R_drew)); exact Kd.R_mono HO_253002.out (fun _ hk => ⟨hk.1.1.1.1, ⟨hk.1.1.1.2, hk.2⟩⟩)⟩, ⟨by (try simp only [hl259002_73]); (with_reducible repeat (first | apply Kd.R_alloc | apply Kd.R_drewN | apply Kd.R_drew)); exact Kd.R_mono HO_259002.out (fun _ hk => ⟨hk.1.1.1.1, ⟨hk.1.1.1.2, hk.2⟩⟩)⟩, ⟨by (try simp only [hl259002_73]); (with_reducible repeat (first | apply Kd.R_alloc | apply Kd.R_drewN | apply Kd.R_drew)); exact Kd.R_mono HO_269002.out (fun _ hk => ⟨hk.1.1.1.1, ⟨hk.1.1.1.2, hk.2⟩⟩)⟩, ⟨by (try simp only [hl259002_73]); (with_reducible repeat (first | apply Kd.R_alloc | apply Kd.R_drewN | apply Kd.R_drew)); exact Kd.R_mono HO300.out (fun _ hk => ⟨hk.1.1.1.1.2, ⟨hk.1.1.1.2, hk.1.1.2⟩⟩)⟩, ⟨by (try simp only [hl259002_73]); (with_reducible repeat (first | refine blk_drewN ?_ _ | refine blk_drew ?_ | refine blk_alloc ?_ _)); exact BK236.out⟩, ⟨by (try simp only [hl259002_73]); (with_reducible repeat (first | refine blk_drewN ?_ _ | refine blk_drew ?_ | refine blk_alloc ?_ _)); exact BK252.out⟩, ⟨by (try simp only [hl259002_73]); (with_reducible repeat (first | refine blk_drewN ?_ _ | refine blk_drew ?_ | refine blk_alloc ?_ _)); exact BK258.out⟩, ⟨by (try simp only [hl259002_73]); (with_reducible repeat (first | refine blk_drewN ?_ _ | refine blk_drew ?_ | refine blk_alloc ?_ _)); exact BK268.out⟩, ⟨by (try simp only [hl259002_73]); (with_reducible repeat (first | refine blk_drewN ?_ _ | refine blk_drew ?_ | refine blk_alloc ?_ _)); exact BK302.out⟩, ⟨by repeat (first | (with_reducible first | exact HB.out | apply below_alloc | apply pw_below_drewN | apply below_drew1 | refine below_set ?_ GE236.out | refine below_set ?_ GE252.out | refine below_set ?_ GE258.out | refine below_set ?_ GE268.out | refine below_set ?_ GE302.out) | exact HB.out)⟩⟩
                            · replace c138 := Bool.eq_false_iff.mpr c138
                              subst c138
                              have H1 : (laws_FnExactCoverOf.j2 kj73 t285 true t262 t263 t286) = some true := by first | exact rfl | (rw [if_neg (show ¬ (false = true) by decide)] at H; exact H)
                              clear H
                              have H := H1
                              clear H1
                              have H' := Aside0.mk H
                              clear H
                              have hnb149 := NB302_236.out
                              have hnc149 := NB236_302.out
                              have hnb150 := NB302_252.out
                              have hnc150 := NB252_302.out
                              have hnb151 := NB302_258.out
                              have hnc151 := NB258_302.out
                              have hnb152 := NB302_268.out
                              have hnc152 := NB268_302.out
                              have hcz153_0 : w130.cell? ⟨gb302, 0, none⟩ = some (.int .i64 0) := (blk_cell BK302.out 0).trans rfl
                              have hcz153_1 : w130.cell? ⟨gb302, 1, none⟩ = some (.int .i64 0) := (blk_cell BK302.out 1).trans rfl
                              have hcz153_2 : w130.cell? ⟨gb302, 2, none⟩ = some (.slice none 0 0) := (blk_cell BK302.out 2).trans rfl
                              have hfz153_0 := blk_frozen BK302.out 0
                              have hfz153_1 := blk_frozen BK302.out 1
                              have hfz153_2 := blk_frozen BK302.out 2
                              have hnb154 := NB252_236.out
                              have hnc154 := NB236_252.out
                              have hnb155 := NB252_258.out
                              have hnc155 := NB258_252.out
                              have hnb156 := NB252_268.out
                              have hnc156 := NB268_252.out
                              have hcz157_0 : w130.cell? ⟨gb252, 0, none⟩ = some (.int .i64 t246) := (blk_cell BK252.out 0).trans rfl
                              have hcz157_1 : w130.cell? ⟨gb252, 1, none⟩ = some (.int .i64 t247) := (blk_cell BK252.out 1).trans rfl
                              have hcz157_2 : w130.cell? ⟨gb252, 2, none⟩ = some (.slice Ao29 t248.length co29) := (blk_cell BK252.out 2).trans rfl
                              have hfz157_0 := blk_frozen BK252.out 0
                              have hfz157_1 := blk_frozen BK252.out 1
                              have hfz157_2 := blk_frozen BK252.out 2
                              go_wp2_with (first | ((with_reducible refine gate_callee (f := 17) rfl ?_); refine goesL_ (some 102) rfl rfl Try.func17 (by kernel_rfl) rfl #[.agg #[.int .i64 t296, .int .i64 t297, .slice Ao136 t298.length co136], .agg #[.int .i64 t246, .int .i64 t247, .slice Ao29 t248.length co29]] rfl (by (try simp only [List.map_toArray, List.map_cons, List.map_nil]); first | done | rfl | (simp only [List.length_drop, List.length_take]; rfl)) ?_; (with_reducible refine (laws_eqTable.calls kj73 t296 t297 _ _ t298 t246 t247 _ _ t248 false _ ?side1 ?side2 ?side3 ?side4 A137.out).mono ?_); (case side1 => refine (Kd.R_reads' (e := 3) (base := w.heap.size) (ok := fun k_ => (((((True ∧ some k_ ≠ (.slice Ao29 t248.length co29 : Value).ownBlock) ∧ some k_ ≠ (.slice Ao36 t281.length co36 : Value).ownBlock) ∧ some k_ ≠ (.slice Ao46 t264.length co46 : Value).ownBlock) ∧ some k_ ≠ (.slice Ao127 t290.length co127 : Value).ownBlock) ∧ some k_ ≠ (.slice Ao128 t293.length co128 : Value).ownBlock)) (n := t298.length) (c := co136) ?_).2.2; exact (by (with_reducible repeat (first | apply Kd.R_alloc | apply Kd.R_drewN | apply Kd.R_drew)); exact (Kd.R_mono (Kd.R_far (p := ⟨gb302, 2, none⟩) (Kd.R_far (p := ⟨gb302, 1, none⟩) (Kd.R_far (p := ⟨gb302, 0, none⟩) (Kd.R_types HO300.out BK302.out (by decide)) (fun _ hk => hk.2) (.int .i64 t296)) (fun _ hk => hk.2) (.int .i64 t297)) (fun _ hk => hk.2) (.slice Ao136 t298.length co136)) (fun _ h_ => h_.1)))); (case side2 => exact (Kd.R_reads' HO300.out).2.1); (case side3 => refine (Kd.R_reads' (e := 3) (base := w.heap.size) (ok := fun k_ => ((((some k_ ≠ (.slice Ao36 t281.length co36 : Value).ownBlock ∧ some k_ ≠ (.slice Ao46 t264.length co46 : Value).ownBlock) ∧ some k_ ≠ (.slice Ao127 t290.length co127 : Value).ownBlock) ∧ some k_ ≠ (.slice Ao128 t293.length co128 : Value).ownBlock) ∧ some k_ ≠ (.slice Ao136 t298.length co136 : Value).ownBlock)) (n := t248.length) (c := co29) ?_).2.2; exact (by (with_reducible repeat (first | apply Kd.R_alloc | apply Kd.R_drewN | apply Kd.R_drew)); exact (Kd.R_mono (Kd.R_far (p := ⟨gb302, 2, none⟩) (Kd.R_far (p := ⟨gb302, 1, none⟩) (Kd.R_far (p := ⟨gb302, 0, none⟩) (Kd.R_types HO_253002.out BK302.out (by decide)) (fun _ hk => hk.2) (.int .i64 t296)) (fun _ hk => hk.2) (.int .i64 t297)) (fun _ hk => hk.2) (.slice Ao136 t298.length co136)) (fun _ h_ => h_.1)))); (case side4 => exact (Kd.R_reads' HO_253002.out).2.1); rintro e w158 ⟨rfl, hb⟩; refine ⟨_, rfl, ?_⟩; have n0_ := Aside0.mk (Kd.R_below (by (with_reducible repeat (first | apply Kd.R_alloc | apply Kd.R_drewN | apply Kd.R_drew)); exact (Kd.R_mono (Kd.R_far (p := ⟨gb302, 2, none⟩) (Kd.R_far (p := ⟨gb302, 1, none⟩) (Kd.R_far (p := ⟨gb302, 0, none⟩) (Kd.R_types HO_253002.out BK302.out (by decide)) (fun _ hk => hk.2) (.int .i64 t296)) (fun _ hk => hk.2) (.int .i64 t297)) (fun _ hk => hk.2) (.slice Ao136 t298.length co136)) (fun _ h_ => h_.1))) hb); have n1_ := Aside0.mk (Kd.R_below (by (with_reducible repeat (first | apply Kd.R_alloc | apply Kd.R_drewN | apply Kd.R_drew)); exact (Kd.R_mono (Kd.R_far (p := ⟨gb302, 2, none⟩) (Kd.R_far (p := ⟨gb302, 1, none⟩) (Kd.R_far (p := ⟨gb302, 0, none⟩) (Kd.R_types HO_259002.out BK302.out (by decide)) (fun _ hk => hk.2) (.int .i64 t296)) (fun _ hk => hk.2) (.int .i64 t297)) (fun _ hk => hk.2) (.slice Ao136 t298.length co136)) (fun _ h_ => h_.1))) hb); have n2_ := Aside0.mk (Kd.R_below (by (with_reducible repeat (first | apply Kd.R_alloc | apply Kd.R_drewN | apply Kd.R_drew)); exact (Kd.R_mono (Kd.R_far (p := ⟨gb302, 2, none⟩) (Kd.R_far (p := ⟨gb302, 1, none⟩) (Kd.R_far (p := ⟨gb302, 0, none⟩) (Kd.R_types HO_269002.out BK302.out (by decide)) (fun _ hk => hk.2) (.int .i64 t296)) (fun _ hk => hk.2) (.int .i64 t297)) (fun _ hk => hk.2) (.slice Ao136 t298.length co136)) (fun _ h_ => h_.1))) hb); have n3_ := Aside0.mk (Kd.R_below (by (with_reducible repeat (first | apply Kd.R_alloc | apply Kd.R_drewN | apply Kd.R_drew)); exact (Kd.R_mono (Kd.R_far (p := ⟨gb302, 2, none⟩) (Kd.R_far (p := ⟨gb302, 1, none⟩) (Kd.R_far (p := ⟨gb302, 0, none⟩) (Kd.R_types HO292.out BK302.out (by decide)) (fun _ hk => hk.2) (.int .i64 t296)) (fun _ hk => hk.2) (.int .i64 t297)) (fun _ hk => hk.2) (.slice Ao136 t298.length co136)) (fun _ h_ => h_.1))) hb); have n4_ := Aside0.mk (Kd.R_below (by (with_reducible repeat (first | apply Kd.R_alloc | apply Kd.R_drewN | apply Kd.R_drew)); exact (Kd.R_mono (Kd.R_far (p := ⟨gb302, 2, none⟩) (Kd.R_far (p := ⟨gb302, 1, none⟩) (Kd.R_far (p := ⟨gb302, 0, none⟩) (Kd.R_types HO295.out BK302.out (by decide)) (fun _ hk => hk.2) (.int .i64 t296)) (fun _ hk => hk.2) (.int .i64 t297)) (fun _ hk => hk.2) (.slice Ao136 t298.length co136)) (fun _ h_ => h_.1))) hb); have n5_ := Aside0.mk (Kd.R_below (by (with_reducible repeat (first | apply Kd.R_alloc | apply Kd.R_drewN | apply Kd.R_drew)); exact (Kd.R_mono (Kd.R_far (p := ⟨gb302, 2, none⟩) (Kd.R_far (p := ⟨gb302, 1, none⟩) (Kd.R_far (p := ⟨gb302, 0, none⟩) (Kd.R_types HO300.out BK302.out (by decide)) (fun _ hk => hk.2) (.int .i64 t296)) (fun _ hk => hk.2) (.int .i64 t297)) (fun _ hk => hk.2) (.slice Ao136 t298.length co136)) (fun _ h_ => h_.1))) hb); have n6_ := Aside0.mk (blk_below (g := gb236) (o := .cells #[.int .i64 a0_0, .int .i64 a0_1, .slice A0_2 l0_2.length c0_2] 24 (0, 0)) (by (with_reducible repeat (first | refine blk_drewN ?_ _ | refine blk_drew ?_ | refine blk_alloc ?_ _)); refine blk_far ?_ NB236_302.out _; (with_reducible repeat (first | refine blk_drewN ?_ _ | refine blk_drew ?_ | refine blk_alloc ?_ _)); refine blk_far ?_ NB236_302.out _; (with_reducible repeat (first | refine blk_drewN ?_ _ | refine blk_drew ?_ | refine blk_alloc ?_ _)); refine blk_far ?_ NB236_302.out _; (with_reducible repeat (first | refine blk_drewN ?_ _ | refine blk_drew ?_ | refine blk_alloc ?_ _)); exact BK236.out) hb); have n7_ := Aside0.mk (blk_below (g := gb252) (o := .cells #[.int .i64 t246, .int .i64 t247, .slice Ao29 t248.length co29] 28 (0, 0)) (by (with_reducible repeat (first | refine blk_drewN ?_ _ | refine blk_drew ?_ | refine blk_alloc ?_ _)); refine blk_far ?_ NB252_302.out _; (with_reducible repeat (first | refine blk_drewN ?_ _ | refine blk_drew ?_ | refine blk_alloc ?_ _)); refine blk_far ?_ NB252_302.out _; (with_reducible repeat (first | refine blk_drewN ?_ _ | refine blk_drew ?_ | refine blk_alloc ?_ _)); refine blk_far ?_ NB252_302.out _; (with_reducible repeat (first | refine blk_drewN ?_ _ | refine blk_drew ?_ | refine blk_alloc ?_ _)); exact BK252.out) hb); have n8_ := Aside0.mk (blk_below (g := gb258) (o := .cells #[.int .i64 t253, .int .i64 t254, .slice Ao36 t281.length co36] 28 (0, 0)) (by (with_reducible repeat (first | refine blk_drewN ?_ _ | refine blk_drew ?_ | refine blk_alloc ?_ _)); refine blk_far ?_ NB258_302.out _; (with_reducible repeat (first | refine blk_drewN ?_ _ | refine blk_drew ?_ | refine blk_alloc ?_ _)); refine blk_far ?_ NB258_302.out _; (with_reducible repeat (first | refine blk_drewN ?_ _ | refine blk_drew ?_ | refine blk_alloc ?_ _)); refine blk_far ?_ NB258_302.out _; (with_reducible repeat (first | refine blk_drewN ?_ _ | refine blk_drew ?_ | refine blk_alloc ?_ _)); exact BK258.out) hb); have n9_ := Aside0.mk (blk_below (g := gb268) (o := .cells #[.int .i64 t262, .int .i64 t263, .slice Ao46 t264.length co46] 28 (0, 0)) (by (with_reducible repeat (first | refine blk_drewN ?_ _ | refine blk_drew ?_ | refine blk_alloc ?_ _)); refine blk_far ?_ NB268_302.out _; (with_reducible repeat (first | refine blk_drewN ?_ _ | refine blk_drew ?_ | refine blk_alloc ?_ _)); refine blk_far ?_ NB268_302.out _; (with_reducible repeat (first | refine blk_drewN ?_ _ | refine blk_drew ?_ | refine blk_alloc ?_ _)); refine blk_far ?_ NB268_302.out _; (with_reducible repeat (first | refine blk_drewN ?_ _ | refine blk_drew ?_ | refine blk_alloc ?_ _)); exact BK268.out) hb); have n10_ := Aside0.mk (blk_below (g := gb302) (o := .cells #[.int .i64 t296, .int .i64 t297, .slice Ao136 t298.length co136] 28 (0, 0)) (by (with_reducible repeat (first | refine blk_drewN ?_ _ | refine blk_drew ?_ | refine blk_alloc ?_ _)); refine blk_put (cs := #[.int .i64 t296, .int .i64 t297, .slice none 0 0]) ?_ 2 _ rfl; (with_reducible repeat (first | refine blk_drewN ?_ _ | refine blk_drew ?_ | refine blk_alloc ?_ _)); refine blk_put (cs := #[.int .i64 t296, .int .i64 0, .slice none 0 0]) ?_ 1 _ rfl; (with_reducible repeat (first | refine blk_drewN ?_ _ | refine blk_drew ?_ | refine blk_alloc ?_ _)); refine blk_put (cs := #[.int .i64 0, .int .i64 0, .slice none 0 0]) ?_ 0 _ rfl; (with_reducible repeat (first | refine blk_drewN ?_ _ | refine blk_drew ?_ | refine blk_alloc ?_ _)); exact BK302.out) hb); have n11_ := Aside0.mk (below_step (by repeat (first | (with_reducible first | exact HB.out | apply below_alloc | apply pw_below_drewN | apply below_drew1 | refine below_set ?_ GE236.out | refine below_set ?_ GE252.out | refine below_set ?_ GE258.out | refine below_set ?_ GE268.out | refine below_set ?_ GE302.out) | exact HB.out)) hb); clear HO_253002; clear HO_259002; clear HO_269002; clear HO292; clear HO295; clear HO300; clear BK236; clear BK252; clear BK258; clear BK268; clear BK302; clear HB; have HO_253002 := n0_; have HO_259002 := n1_; have HO_269002 := n2_; have HO292 := n3_; have HO295 := n4_; have HO300 := n5_; have BK236 := n6_; have BK252 := n7_; have BK258 := n8_; have BK268 := n9_; have BK302 := n10_; have HB := n11_; clear n0_ n1_ n2_ n3_ n4_ n5_ n6_ n7_ n8_ n9_ n10_ n11_; (try clear hb); (try clear hb2); (try clear hk); (try clear hi)))
                              go_meet
                              case rel => exact ⟨_, (true), (by first | rfl | (simp; done) | (simp [*]; done)), H', ⟨by have := HJ15.out; have := HJ73.out; first | omega | exact Nat.le_refl _⟩, ⟨by (try simp only [hl259002_73]); (with_reducible repeat (first | apply Kd.R_alloc | apply Kd.R_drewN | apply Kd.R_drew)); exact Kd.R_mono HO_253002.out (fun _ hk => ⟨hk.1.1.1.1, ⟨hk.1.1.1.2, hk.2⟩⟩)⟩, ⟨by (try simp only [hl259002_73]); (with_reducible repeat (first | apply Kd.R_alloc | apply Kd.R_drewN | apply Kd.R_drew)); exact Kd.R_mono HO_259002.out (fun _ hk => ⟨hk.1.1.1.1, ⟨hk.1.1.1.2, hk.2⟩⟩)⟩, ⟨by (try simp only [hl259002_73]); (with_reducible repeat (first | apply Kd.R_alloc | apply Kd.R_drewN | apply Kd.R_drew)); exact Kd.R_mono HO_269002.out (fun _ hk => ⟨hk.1.1.1.1, ⟨hk.1.1.1.2, hk.2⟩⟩)⟩, ⟨by (try simp only [hl259002_73]); (with_reducible repeat (first | apply Kd.R_alloc | apply Kd.R_drewN | apply Kd.R_drew)); exact Kd.R_mono HO300.out (fun _ hk => ⟨hk.1.1.1.1.2, ⟨hk.1.1.1.2, hk.1.1.2⟩⟩)⟩, ⟨by (try simp only [hl259002_73]); (with_reducible repeat (first | refine blk_drewN ?_ _ | refine blk_drew ?_ | refine blk_alloc ?_ _)); exact BK236.out⟩, ⟨by (try simp only [hl259002_73]); (with_reducible repeat (first | refine blk_drewN ?_ _ | refine blk_drew ?_ | refine blk_alloc ?_ _)); exact BK252.out⟩, ⟨by (try simp only [hl259002_73]); (with_reducible repeat (first | refine blk_drewN ?_ _ | refine blk_drew ?_ | refine blk_alloc ?_ _)); exact BK258.out⟩, ⟨by (try simp only [hl259002_73]); (with_reducible repeat (first | refine blk_drewN ?_ _ | refine blk_drew ?_ | refine blk_alloc ?_ _)); exact BK268.out⟩, ⟨by (try simp only [hl259002_73]); (with_reducible repeat (first | refine blk_drewN ?_ _ | refine blk_drew ?_ | refine blk_alloc ?_ _)); exact BK302.out⟩, ⟨by repeat (first | (with_reducible first | exact HB.out | apply below_alloc | apply pw_below_drewN | apply below_drew1 | refine below_set ?_ GE236.out | refine below_set ?_ GE252.out | refine below_set ?_ GE258.out | refine below_set ?_ GE268.out | refine below_set ?_ GE302.out) | exact HB.out)⟩⟩
                          case rest =>
                            clear HC114
                            try clear c1
                            try clear c2
                            try clear p2
                            try clear c3
                            try clear c3b0
                            try clear c3b1
                            try clear c4
                            try clear c5
                            try clear c6
                            try clear c6b0
                            try clear c7
                            try clear c8
                            try clear c9
                            try clear c10
                            try clear c11
                            try clear c12
                            try clear c13
                            try clear c14
                            try clear c15
                            try clear c16
                            try clear c17
                            try clear c18
                            try clear c19
                            try clear c23
                            try clear c27
                            try clear c33
                            try clear c34
                            try clear c38
                            try clear c40
                            try clear c41
                            try clear c42
                            try clear c43
                            try clear c44
                            try clear c48
                            try clear c49
                            try clear c50
                            try clear c51
                            try clear c53
                            try clear c54
                            try clear c57
                            try clear c58
                            try clear c59
                            try clear c61
                            try clear c62
                            try clear c65
                            try clear c68
                            try clear c71
                            try clear c81
                            try clear c82
                            try clear c83
                            try clear c87
                            try clear c87b0
                            try clear c89
                            try clear c90
                            try clear c91
                            try clear c92
                            try clear c94
                            try clear c95
                            try clear c98
                            try clear c99
                            try clear c100
                            try clear c102
                            try clear c103
                            try clear c106
                            try clear c109
                            try clear c109b0
                            try clear c110
                            try clear c110b0
                            try clear c110b1
                            try clear c115
                            try clear c116
                            try clear c117
                            try clear c122
                            try clear c123
                            try clear c131
                            try clear c132
                            try clear c133
                            try clear c134
                            try clear c138
                            try clear c139
                            try clear c140
                            try clear c141
                            try clear c142
                            try clear c144
                            try clear c145
                            try clear c146
                            try clear c149
                            try clear c150
                            try clear c151
                            try clear c152
                            try clear c154
                            try clear c155
                            try clear c156
                            try clear hcz101_0
                            try clear hcz101_1
                            try clear hcz101_2
                            try clear hcz104_0
                            try clear hcz104_1
                            try clear hcz104_2
                            try clear hcz118_0
                            try clear hcz118_1
                            try clear hcz118_2
                            try clear hcz120_0
                            try clear hcz120_1
                            try clear hcz120_2
                            try clear hcz124_0
                            try clear hcz124_1
                            try clear hcz124_2
                            try clear hcz135_0
                            try clear hcz135_1
                            try clear hcz135_2
                            try clear hcz143_0
                            try clear hcz143_1
                            try clear hcz143_2
                            try clear hcz147_0
                            try clear hcz147_1
                            try clear hcz147_2
                            try clear hcz153_0
                            try clear hcz153_1
                            try clear hcz153_2
                            try clear hcz157_0
                            try clear hcz157_1
                            try clear hcz157_2
                            try clear hcz18_0
                            try clear hcz18_1
                            try clear hcz18_2
                            try clear hcz20_0
                            try clear hcz20_1
                            try clear hcz20_2
                            try clear hcz28_0
                            try clear hcz28_1
                            try clear hcz28_2
                            try clear hcz30_0
                            try clear hcz30_1
                            try clear hcz30_2
                            try clear hcz35_0
                            try clear hcz35_1
                            try clear hcz35_2
                            try clear hcz38_0
                            try clear hcz38_1
                            try clear hcz38_2
                            try clear hcz45_0
                            try clear hcz45_1
                            try clear hcz45_2
                            try clear hcz52_0
                            try clear hcz52_1
                            try clear hcz52_2
                            try clear hcz55_0
                            try clear hcz55_1
                            try clear hcz55_2
                            try clear hcz60_0
                            try clear hcz60_1
                            try clear hcz60_2
                            try clear hcz63_0
                            try clear hcz63_1
                            try clear hcz63_2
                            try clear hcz84_0
                            try clear hcz84_1
                            try clear hcz84_2
                            try clear hcz8_0
                            try clear hcz8_1
                            try clear hcz8_2
                            try clear hcz93_0
                            try clear hcz93_1
                            try clear hcz93_2
                            try clear hcz96_0
                            try clear hcz96_1
                            try clear hcz96_2
                            try clear hfz101_0
                            try clear hfz101_1
                            try clear hfz101_2
                            try clear hfz104_0
                            try clear hfz104_1
                            try clear hfz104_2
                            try clear hfz118_0
                            try clear hfz118_1
                            try clear hfz118_2
                            try clear hfz120_0
                            try clear hfz120_1
                            try clear hfz120_2
                            try clear hfz124_0
                            try clear hfz124_1
                            try clear hfz124_2
                            try clear hfz135_0
                            try clear hfz135_1
                            try clear hfz135_2
                            try clear hfz143_0
                            try clear hfz143_1
                            try clear hfz143_2
                            try clear hfz147_0
                            try clear hfz147_1
                            try clear hfz147_2
                            try clear hfz153_0
                            try clear hfz153_1
                            try clear hfz153_2
                            try clear hfz157_0
                            try clear hfz157_1
                            try clear hfz157_2
                            try clear hfz18_0
                            try clear hfz18_1
                            try clear hfz18_2
                            try clear hfz20_0
                            try clear hfz20_1
                            try clear hfz20_2
                            try clear hfz28_0
                            try clear hfz28_1
                            try clear hfz28_2
                            try clear hfz30_0
                            try clear hfz30_1
                            try clear hfz30_2
                            try clear hfz35_0
                            try clear hfz35_1
                            try clear hfz35_2
                            try clear hfz38_0
                            try clear hfz38_1
                            try clear hfz38_2
                            try clear hfz45_0
                            try clear hfz45_1
                            try clear hfz45_2
                            try clear hfz52_0
                            try clear hfz52_1
                            try clear hfz52_2
                            try clear hfz55_0
                            try clear hfz55_1
                            try clear hfz55_2
                            try clear hfz60_0
                            try clear hfz60_1
                            try clear hfz60_2
                            try clear hfz63_0
                            try clear hfz63_1
                            try clear hfz63_2
                            try clear hfz84_0
                            try clear hfz84_1
                            try clear hfz84_2
                            try clear hfz8_0
                            try clear hfz8_1
                            try clear hfz8_2
                            try clear hfz93_0
                            try clear hfz93_1
                            try clear hfz93_2
                            try clear hfz96_0
                            try clear hfz96_1
                            try clear hfz96_2
                            try clear p2
                            obtain ⟨kq, x108_113, rfl, HA, HJ113, HO_253002, HO_259002, HO_269002, HO_303002, BK236, BK252, BK258, BK268, BK302, HB⟩ := hcut
                            have hl269002_113 := (Kd.R_reads' HO_269002.out).1
                            rw [hl269002_113] at HO_269002
                            (try simp only [hl269002_113])
                            (try simp only [hl269002_113] at BK236)
                            (try simp only [hl269002_113] at BK252)
                            (try simp only [hl269002_113] at BK258)
                            (try simp only [hl269002_113] at BK268)
                            (try simp only [hl269002_113] at BK302)
                            (try simp only [hl269002_113] at HO_253002)
                            (try simp only [hl269002_113] at HO_259002)
                            (try simp only [hl269002_113] at HO_303002)
                            cases kq with
                            | zero => exact absurd HA.out (by simp [laws_FnExactCoverOf.j2])
                            | succ kj113 =>
                              have H := HA.out
                              clear HA
                              simp only [laws_FnExactCoverOf.j2] at H
                              by_cases c159 : x108_113 = true
                              · subst c159
                                have H1 : (some false) = some true := by first | exact rfl | (rw [if_pos rfl] at H; exact H)
                                clear H
                                have H := H1
                                clear H1
                                exact absurd H (by decide)
                              · replace c159 := Bool.eq_false_iff.mpr c159
                                subst c159
                                have H1 : ((laws_heldTable.f kj113 t262 t263 t286 1).bind fun t304 => (if t304 < 0 then (some false) else (if t304 = t285 then (some true) else (some false)))) = some true := by first | exact rfl | (rw [if_neg (show ¬ (false = true) by decide)] at H; exact H)
                                clear H
                                have H := H1
                                clear H1
                                replace H := Option.bind_eq_some_iff.mp H
                                obtain ⟨t304, A1600, H⟩ := H
                                replace H : (if t304 < 0 then (some false) else (if t304 = t285 then (some true) else (some false))) = some true := H
                                have A160 := Aside0.mk A1600
                                clear A1600
                                by_cases c161 : t304 < 0
                                · rw [if_pos c161] at H
                                  have c161b0 : decide (t304 < 0) = true := decide_eq_true c161
                                  clear c161
                                  exact absurd H (by decide)
                                · rw [if_neg c161] at H
                                  have c161b0 : decide (t304 < 0) = false := decide_eq_false c161
                                  clear c161
                                  by_cases c162 : t304 = t285
                                  · rw [if_pos c162] at H
                                    have c162b0 : (t304 == t285) = true := beq_iff_eq.mpr c162
                                    have c162b1 : (t304 != t285) = false := bne_eq_false_iff_eq.mpr c162
                                    clear c162
                                    clear H
                                    have hnb163 := NB268_236.out
                                    have hnc163 := NB236_268.out
                                    have hnb164 := NB268_252.out
                                    have hnc164 := NB252_268.out
                                    have hnb165 := NB268_258.out
                                    have hnc165 := NB258_268.out
                                    have hnb166 := NB268_302.out
                                    have hnc166 := NB302_268.out
                                    have hcz167_0 : wc.cell? ⟨gb268, 0, none⟩ = some (.int .i64 t262) := (blk_cell BK268.out 0).trans rfl
                                    have hcz167_1 : wc.cell? ⟨gb268, 1, none⟩ = some (.int .i64 t263) := (blk_cell BK268.out 1).trans rfl
                                    have hcz167_2 : wc.cell? ⟨gb268, 2, none⟩ = some (.slice Ao46 t286.length co46) := (blk_cell BK268.out 2).trans rfl
                                    have hfz167_0 := blk_frozen BK268.out 0
                                    have hfz167_1 := blk_frozen BK268.out 1
                                    have hfz167_2 := blk_frozen BK268.out 2
                                    go_wp2_with (first | ((with_reducible refine gate_callee (f := 23) rfl ?_); refine goesL_ (some 111) rfl rfl Try.func23 (by kernel_rfl) rfl #[.agg #[.int .i64 t262, .int .i64 t263, .slice Ao46 t286.length co46], .int .i64 1] rfl (by (try simp only [List.map_toArray, List.map_cons, List.map_nil]); first | done | rfl | (simp only [List.length_drop, List.length_take]; rfl)) ?_; (with_reducible refine (laws_heldTable.calls kj113 t262 t263 _ _ t286 1 t304 _ ?side1 ?side2 A160.out).mono ?_); (case side1 => repeat (first | exact (Kd.R_reads' HO_269002.out).2.2 | (with_reducible refine Kd.C_alloc ?_ _) | (with_reducible refine Kd.C_drewN ?_ _) | (with_reducible refine Kd.C_drew ?_))); (case side2 => exact (Kd.R_reads' HO_269002.out).2.1); rintro e w168 ⟨rfl, hb⟩; refine ⟨_, rfl, ?_⟩; have n0_ := Aside0.mk (Kd.R_below (by (with_reducible repeat (first | apply Kd.R_alloc | apply Kd.R_drewN | apply Kd.R_drew)); exact HO_253002.out) hb); have n1_ := Aside0.mk (Kd.R_below (by (with_reducible repeat (first | apply Kd.R_alloc | apply Kd.R_drewN | apply Kd.R_drew)); exact HO_259002.out) hb); have n2_ := Aside0.mk (Kd.R_below (by (with_reducible repeat (first | apply Kd.R_alloc | apply Kd.R_drewN | apply Kd.R_drew)); exact HO_269002.out) hb); have n3_ := Aside0.mk (Kd.R_below (by (with_reducible repeat (first | apply Kd.R_alloc | apply Kd.R_drewN | apply Kd.R_drew)); exact HO_303002.out) hb); have n4_ := Aside0.mk (blk_below (g := gb236) (o := .cells #[.int .i64 a0_0, .int .i64 a0_1, .slice A0_2 l0_2.length c0_2] 24 (0, 0)) (by (with_reducible repeat (first | refine blk_drewN ?_ _ | refine blk_drew ?_ | refine blk_alloc ?_ _)); exact BK236.out) hb); have n5_ := Aside0.mk (blk_below (g := gb252) (o := .cells #[.int .i64 t246, .int .i64 t247, .slice Ao29 t248.length co29] 28 (0, 0)) (by (with_reducible repeat (first | refine blk_drewN ?_ _ | refine blk_drew ?_ | refine blk_alloc ?_ _)); exact BK252.out) hb); have n6_ := Aside0.mk (blk_below (g := gb258) (o := .cells #[.int .i64 t253, .int .i64 t254, .slice Ao36 t281.length co36] 28 (0, 0)) (by (with_reducible repeat (first | refine blk_drewN ?_ _ | refine blk_drew ?_ | refine blk_alloc ?_ _)); exact BK258.out) hb); have n7_ := Aside0.mk (blk_below (g := gb268) (o := .cells #[.int .i64 t262, .int .i64 t263, .slice Ao46 t286.length co46] 28 (0, 0)) (by (with_reducible repeat (first | refine blk_drewN ?_ _ | refine blk_drew ?_ | refine blk_alloc ?_ _)); exact BK268.out) hb); have n8_ := Aside0.mk (blk_below (g := gb302) (o := .cells #[.int .i64 t296, .int .i64 t297, .slice Ao136 t298.length co136] 28 (0, 0)) (by (with_reducible repeat (first | refine blk_drewN ?_ _ | refine blk_drew ?_ | refine blk_alloc ?_ _)); exact BK302.out) hb); have n9_ := Aside0.mk (below_step (by repeat (first | (with_reducible first | exact HB.out | apply below_alloc | apply pw_below_drewN | apply below_drew1 | refine below_set ?_ GE236.out | refine below_set ?_ GE252.out | refine below_set ?_ GE258.out | refine below_set ?_ GE268.out | refine below_set ?_ GE302.out) | exact HB.out)) hb); clear HO_253002; clear HO_259002; clear HO_269002; clear HO_303002; clear BK236; clear BK252; clear BK258; clear BK268; clear BK302; clear HB; have HO_253002 := n0_; have HO_259002 := n1_; have HO_269002 := n2_; have HO_303002 := n3_; have BK236 := n4_; have BK252 := n5_; have BK258 := n6_; have BK268 := n7_; have BK302 := n8_; have HB := n9_; clear n0_ n1_ n2_ n3_ n4_ n5_ n6_ n7_ n8_ n9_; (try clear hb); (try clear hb2); (try clear hk); (try clear hi)))
                                    go_ret
                                    exact ⟨by first | rfl | (simp [errW_none, errW_some] <;> rfl) | (simp [*, errW_none, errW_some] <;> rfl), by repeat (first | (with_reducible first | exact HB.out | apply below_alloc | apply pw_below_drewN | apply below_drew1 | refine below_set ?_ GE236.out | refine below_set ?_ GE252.out | refine below_set ?_ GE258.out | refine below_set ?_ GE268.out | refine below_set ?_ GE302.out) | exact HB.out)⟩
                                  · rw [if_neg c162] at H
                                    have c162b0 : (t304 == t285) = false := beq_eq_false_iff_ne.mpr c162
                                    have c162b1 : (t304 != t285) = true := bne_iff_ne.mpr c162
                                    exact absurd H (by decide)
                        · rw [if_neg c110] at H
                          have c110b0 : (t287 == t285) = false := beq_eq_false_iff_ne.mpr c110
                          have c110b1 : (t287 != t285) = true := bne_iff_ne.mpr c110
                          exact absurd H (by decide)
              · replace c71 := Bool.eq_false_iff.mpr c71
                subst c71
                have H1 : (some false) = some true := by first | exact rfl | (rw [if_neg (show ¬ (false = true) by decide)] at H; exact H)
                clear H
                have H := H1
                clear H1
                exact absurd H (by decide)
            · replace c68 := Bool.eq_false_iff.mpr c68
              subst c68
              have H1 : (some false) = some true := by first | exact rfl | (rw [if_neg (show ¬ (false = true) by decide)] at H; exact H)
              clear H
              have H := H1
              clear H1
              exact absurd H (by decide)

/-- THE ONE PURE STATEMENT of laws_FnExactCoverOf: yours. -/
def laws_FnExactCoverOf.Pure : Prop := ∀ (a0_0 : Int) (a0_1 : Int) (l0_2 : List Int) (l1 : List Int), (Lit.int .i64 a0_0).wf = true → (Lit.int .i64 a0_1).wf = true → l0_2.length ≤ maxLen → (∀ x ∈ l0_2, (Lit.int .i64 x).wf = true) → l1.length ≤ maxLen → l1.length * 8 ≤ 140737488351232 → (∀ x ∈ l1, (Lit.int .i64 x).wf = true) → ∃ k, laws_FnExactCoverOf.f k a0_0 a0_1 l0_2 l1 = some true
theorem laws_FnExactCoverOf.walk (P : laws_FnExactCoverOf.Pure) (a0_0 : Int) (a0_1 : Int) (a0_2 : Option Addr) (len0_2 cap0_2 : Nat) (z0_2 : List Int) (a1 : Option Addr) (len1 cap1 : Nat) (z1 : List Int) (w : World) (w0_0 : (Lit.int .i64 a0_0).wf = true) (w0_1 : (Lit.int .i64 a0_1).wf = true) (w0_2 : (a0_2 = none ∧ len0_2 = 0 ∧ cap0_2 = 0 ∧ z0_2 = []) ∨ ∃ x, a0_2 = some x ∧ len0_2 ≤ cap0_2 ∧ cap0_2 ≤ maxLen ∧ z0_2.length = cap0_2 ∧ (∀ i, i < z0_2.length → w.cell? (x.add i) = some (.int .i64 (z0_2.getD i 0))) ∧ ∀ n ∈ z0_2, (Lit.int .i64 n).wf = true) (w1 : (a1 = none ∧ len1 = 0 ∧ cap1 = 0 ∧ z1 = []) ∨ ∃ x, a1 = some x ∧ len1 ≤ cap1 ∧ cap1 ≤ maxLen ∧ z1.length = cap1 ∧ (∀ i, i < z1.length → w.cell? (x.add i) = some (.int .i64 (z1.getD i 0))) ∧ ∀ n ∈ z1, (Lit.int .i64 n).wf = true) (y1 : len1 * 8 ≤ 140737488351232) :
    Calls Try.prog 11 #[.agg #[.int .i64 a0_0, .int .i64 a0_1, .slice a0_2 len0_2 cap0_2], .slice a1 len1 cap1] w fun e w' => e = .returned (.bool true) ∧ Below w.heap.size w w' := by
  obtain ⟨l0_2, rfl, hr0_2, hm0_2, hw0_2, hc0_2⟩ := ReadsInt.ofRowC w0_2
  obtain ⟨l1, rfl, hr1, hm1, hw1, hc1⟩ := ReadsInt.ofRowC w1
  obtain ⟨k, h⟩ := P a0_0 a0_1 l0_2 l1 w0_0 w0_1 hm0_2 hw0_2 hm1 y1 hw1
  refine (laws_FnExactCoverOf.calls k a0_0 a0_1 _ _ l0_2 _ _ l1 w (Kd.C_of_reads (d := (0 : Int)) (h1 := fun _ => rfl) hr0_2) hc0_2 (Kd.C_of_reads (d := (0 : Int)) (h1 := fun _ => rfl) hr1) hc1 h).mono ?_
  rintro e w' ⟨rfl, hd⟩
  exact ⟨rfl, hd⟩

end Go.Proofs.Ytcjofpajmhddkaa.PFnExactCoverOf
