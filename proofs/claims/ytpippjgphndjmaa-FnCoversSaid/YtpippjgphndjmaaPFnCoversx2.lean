-- Written by a program of this session's (wip/myprint2): the functions by the kit's print, the walks by awgen.py. Lean checks it.
import Derived.Test.YtpippjgphndjmaaPFnCoversx0
import Derived.Test.YtpippjgphndjmaaPFnCoversx1
namespace Go.Proofs.Ytpippjgphndjmaa.PFnCovers
open Go.RowKit Go.Proofs.YtpippjgphndjmaaW.PrintWords Go.Proofs.YtpippjgphndjmaaW.PrintLast Go.Proofs.YtpippjgphndjmaaW.PrintMore Go.Proofs.YtpippjgphndjmaaM Go.Proofs.YtpippjgphndjmaaA
attribute [local go_sem] max2_int min2_int max_two min_two max_three min_three max_four min_four   -- for this text's walks alone
set_option linter.unusedVariables false
set_option linter.unusedSimpArgs false

/-! ### spec_l1All: function 79 -/
def spec_l1All.l0 : Nat → Int → Int → List Int → Int → Int → Option (Bool)
 | 0, _, _, _, _, _ => none
 | k + 1, x1, x2, x9, x10, x11 => if x11 < x10 then (if 0 ≤ x11 then (if x11 < (x9.length : Int) then ((spec_l1In.f (rd x9 x11) x1 x2).bind fun t122 => (if t122 = true then (spec_l1All.l0 k x1 x2 x9 x10 (wrap64 (x11 + 1))) else (some false))) else (none)) else (none)) else (some true)
def spec_l1All.f (k : Nat) (l0 : List Int) (a1 : Int) (a2 : Int) : Option (Bool) := spec_l1All.l0 k a1 a2 l0 (l0.length : Int) 0
theorem spec_l1All.mono_l : ∀ k, (∀ y0 y1 y2 y3 y4, LeO (spec_l1All.l0 k y0 y1 y2 y3 y4) (spec_l1All.l0 (k + 1) y0 y1 y2 y3 y4))
 | 0 => fun _ _ _ _ _ r h => by simp [spec_l1All.l0] at h
 | k + 1 => by
  have ih0 := spec_l1All.mono_l k
  ·
   intro y0 y1 y2 y3 y4
   unfold spec_l1All.l0
   repeat' first
   | (with_reducible exact ih0 _ _ _ _ _)
   | (with_reducible exact LeO.refl _)
   | (with_reducible exact LeO.none _)
   | (with_reducible refine LeO.ite ?_ ?_)
   | (with_reducible refine LeO.bind ?_ (fun _ => ?_))
   | exact ih0 _ _ _ _ _
   | exact LeO.none _
   | refine LeO.ite ?_ ?_
   | refine LeO.bind ?_ (fun _ => ?_)
theorem spec_l1All.mono : ∀ a0 a1 a2 k, LeO (spec_l1All.f k a0 a1 a2) (spec_l1All.f (k + 1) a0 a1 a2) := by
 intro a0 a1 a2 k
 have ih0 := spec_l1All.mono_l k
 unfold spec_l1All.f
 repeat' first
   | (with_reducible exact ih0 _ _ _ _ _)
   | (with_reducible exact LeO.refl _)
   | (with_reducible exact LeO.none _)
   | (with_reducible refine LeO.ite ?_ ?_)
   | (with_reducible refine LeO.bind ?_ (fun _ => ?_))
   | exact ih0 _ _ _ _ _
   | exact LeO.none _
   | refine LeO.ite ?_ ?_
   | refine LeO.bind ?_ (fun _ => ?_)
set_option maxRecDepth 100000 in
set_option maxHeartbeats 20000000 in
theorem spec_l1All.ac (k : Nat) (l0 : List Int) (a1 : Int) (a2 : Int) (r : Bool) (h : spec_l1All.f k l0 a1 a2 = some r) :
  ACalls Try.prog 79 [.row 1 l0.length false (ints .i64 l0), .lit (.int .i64 a1), .lit (.int .i64 a2)] [] (fun v H' => v = .lit (.bool r) ∧ H' = []) := by
 refine ACalls.ofP [6] Try.func79 rfl (by exact Nat.le_of_ble_eq_true rfl) rfl (by decide) ?_
 simp only [Try.ntmps79, env0, spec_l1All.f] at h ⊢
 pl_ h
 refine AWp.seq ?_
 refine AWp.region ?_
 refine L.Y Y.asg ?_
 refine AList.nil ?_
 refine AWp.seq ?_
 refine AWp.seq ?_
 refine AWp.region ?_
 refine L.Y Y.mv ?_
 refine L.Y (Y.ln Try.underlying22) ?_
 refine L.Y Y.mv ?_
 refine AList.nil ?_
 refine AWp.block ?_
 pl_ h
 refine AWp.loopI (fun kk e H => kk ≤ k ∧ ∃ (x1 : Int) (x2 : Int) (x10 : Int) (x11 : Int), e = [(1, .lit (.int .i64 x1)), (2, .lit (.int .i64 x2)), (9, .row 1 l0.length false (ints .i64 l0)), (10, .lit (.int .i64 x10)), (11, .lit (.int .i64 x11))] ∧ H = [] ∧ spec_l1All.l0 kk x1 x2 l0 x10 x11 = some r) (k := k)
  ⟨_, _, ⟨Nat.le_refl _, _, _, _, _, rfl, rfl, h⟩, IsPart.at [] [] base0 .nil (E.c (E.c (E.c (E.c (E.c .nil)))))⟩ ?_
 clear h
 rintro k1 e H ⟨hk2, x1, x2, x10, x11, rfl, rfl, h⟩
 cases k1 with
 | zero => exact absurd h (by simp [spec_l1All.l0])
 | succ k1 =>
 simp only [spec_l1All.l0] at h
 pl_ h
 refine AWp.seq ?_
 refine AWp.region ?_
 refine L.Y Y.bin ?_
 refine AList.nil ?_
 refine AWp.seq ?_
 refine W.cond (fun hb => ?_) (fun hb => ?_)
 ·
  have hb3 := hb
  sb_ hb
  rw_ hb3 hb h
  pl_ h
  refine AWp.skip ?_
  refine AWp.seq ?_
  refine AWp.block ?_
  refine AWp.seq ?_
  refine AWp.region ?_
  refine L.Y (Y.ixr Try.underlying22 Y3) ?_
  refine L.S (S.ld Try.underlying3) ?_
  refine L.Y Y.asg ?_
  refine AList.nil ?_
  refine AWp.seq ?_
  refine AWp.region ?_
  refine L.Y Y.mv ?_
  refine L.Y Y.mv ?_
  refine L.Y Y.mv ?_
  pl_ h
  obtain ⟨t122, hc4, h⟩ := Option.bind_eq_some_iff.1 h
  pl_ h
  refine L.C (C.callE (l := true) [] Try.func46 (spec_l1In.ac _ _ _ _ hc4) .nil ?_)
  refine L.Y Y.nt ?_
  refine AList.nil ?_
  refine W.cond (fun hb => ?_) (fun hb => ?_)
  ·
   have hb5 := hb
   sb_ hb
   rw_ hb5 hb h
   pl_ h
   refine AWp.seq ?_
   refine W.kp [1, 2, 8, 9, 10, 11, 12, 19] ?_
   refine AWp.region ?_
   refine L.Y Y.asg ?_
   refine AList.nil ?_
   pl_ h
   obtain rfl := Option.some.inj h
   refine AWp.ret ?_
   exact ⟨.inr rfl, [(6, _)], _, ⟨rfl, rfl⟩, IsPart.at [] [] base0 .nil (E.c .nil)⟩
  ·
   have hb5 := hb
   sb_ hb
   rw_ hb5 hb h
   pl_ h
   refine AWp.skip ?_
   refine W.kp [1, 2, 8, 9, 10, 11, 12, 19] ?_
   refine AWp.region ?_
   refine L.Y Y.bin ?_
   refine L.Y Y.mv ?_
   refine AList.nil ?_
   pl_ h
   exact ⟨k1, by omega, _, _, ⟨by omega, _, _, _, _, rfl, rfl, h⟩, IsPart.at [] [] base0 .nil (E.c (E.c (E.c (E.c (E.c .nil)))))⟩
 ·
  have hb3 := hb
  sb_ hb
  rw_ hb3 hb h
  pl_ h
  refine AWp.exit ?_
  refine AWp.seq ?_
  refine AWp.region ?_
  refine L.Y Y.asg ?_
  refine AList.nil ?_
  pl_ h
  obtain rfl := Option.some.inj h
  refine AWp.ret ?_
  exact ⟨.inr rfl, [(6, _)], _, ⟨rfl, rfl⟩, IsPart.at [] [] base0 .nil (E.c .nil)⟩

/-! ### spec_TableOfScales: function 78 -/
mutual
def spec_TableOfScales.j0 : Nat → List Int → List Int → Bool → Option (Int × Int × List Int × Bool)
 | 0, _, _, _ => none
 | k + 1, x0, x1, x31 => if x31 = true then (some (0, 0, ([] : List Int), false)) else (spec_TableOfScales.l0 k x1 x0 (x0.length : Int) 0 (x0.length : Int) (x1.length : Int) ([] : List Int))
def spec_TableOfScales.l0 : Nat → List Int → List Int → Int → Int → Int → Int → List Int → Option (Int × Int × List Int × Bool)
 | 0, _, _, _, _, _, _, _ => none
 | k + 1, x1, x38, x39, x40, x129000, x129001, x129002 => if x40 < x39 then (if 0 ≤ x40 then (if x40 < (x38.length : Int) then (spec_TableOfScales.l1 k x1 (rd x38 x40) 0 x38 x39 x40 x1 (x1.length : Int) 0 x129000 x129001 x129002) else (none)) else (none)) else (some (x129000, x129001, x129002, true))
def spec_TableOfScales.l1 : Nat → List Int → Int → Int → List Int → Int → Int → List Int → Int → Int → Int → Int → List Int → Option (Int × Int × List Int × Bool)
 | 0, _, _, _, _, _, _, _, _, _, _, _, _ => none
 | k + 1, x1, x8, x9, x38, x39, x40, x44, x45, x46, x129000, x129001, x129002 => if x46 < x45 then (if 0 ≤ x46 then (if x46 < (x44.length : Int) then (if x8 ≥ (rd x44 x46) then (spec_TableOfScales.l1 k x1 x8 (Go.bits .or .i64 x9 (shl .i64 1 x46)) x38 x39 x40 x44 x45 (wrap64 (x46 + 1)) x129000 x129001 x129002) else (spec_TableOfScales.l1 k x1 x8 x9 x38 x39 x40 x44 x45 (wrap64 (x46 + 1)) x129000 x129001 x129002)) else (none)) else (none)) else (if x129002.length < 17592186044416 then (spec_TableOfScales.l0 k x1 x38 x39 (wrap64 (x40 + 1)) x129000 x129001 (x129002 ++ [x9])) else (none))
end
def spec_TableOfScales.f (k : Nat) (l0 : List Int) (l1 : List Int) : Option (Int × Int × List Int × Bool) := (spec_l1In.f (l0.length : Int) 1 6).bind fun t124 => (if t124 = true then ((spec_l1In.f (l1.length : Int) 1 6).bind fun t125 => (if t125 = true then ((spec_l1All.f k l0 0 99).bind fun t126 => (if t126 = true then ((spec_l1All.f k l1 0 99).bind fun t127 => (spec_TableOfScales.j0 k l0 l1 (!t127))) else (spec_TableOfScales.j0 k l0 l1 true))) else (spec_TableOfScales.j0 k l0 l1 true))) else (spec_TableOfScales.j0 k l0 l1 true))
theorem spec_TableOfScales.mono_l : ∀ k, (∀ y0 y1 y2, LeO (spec_TableOfScales.j0 k y0 y1 y2) (spec_TableOfScales.j0 (k + 1) y0 y1 y2)) ∧ (∀ y0 y1 y2 y3 y4 y5 y6, LeO (spec_TableOfScales.l0 k y0 y1 y2 y3 y4 y5 y6) (spec_TableOfScales.l0 (k + 1) y0 y1 y2 y3 y4 y5 y6)) ∧ (∀ y0 y1 y2 y3 y4 y5 y6 y7 y8 y9 y10 y11, LeO (spec_TableOfScales.l1 k y0 y1 y2 y3 y4 y5 y6 y7 y8 y9 y10 y11) (spec_TableOfScales.l1 (k + 1) y0 y1 y2 y3 y4 y5 y6 y7 y8 y9 y10 y11))
 | 0 => ⟨fun _ _ _ r h => by simp [spec_TableOfScales.j0] at h, fun _ _ _ _ _ _ _ r h => by simp [spec_TableOfScales.l0] at h, fun _ _ _ _ _ _ _ _ _ _ _ _ r h => by simp [spec_TableOfScales.l1] at h⟩
 | k + 1 => by
  obtain ⟨ih0, ih1, ih2⟩ := spec_TableOfScales.mono_l k
  refine ⟨?_, ?_, ?_⟩
  ·
   intro y0 y1 y2
   unfold spec_TableOfScales.j0
   repeat' first
   | (with_reducible exact ih0 _ _ _)
   | (with_reducible exact ih1 _ _ _ _ _ _ _)
   | (with_reducible exact ih2 _ _ _ _ _ _ _ _ _ _ _ _)
   | (with_reducible exact spec_l1All.mono _ _ _ _)
   | (with_reducible exact LeO.refl _)
   | (with_reducible exact LeO.none _)
   | (with_reducible refine LeO.ite ?_ ?_)
   | (with_reducible refine LeO.bind ?_ (fun _ => ?_))
   | exact ih0 _ _ _
   | exact ih1 _ _ _ _ _ _ _
   | exact ih2 _ _ _ _ _ _ _ _ _ _ _ _
   | exact spec_l1All.mono _ _ _ _
   | exact LeO.none _
   | refine LeO.ite ?_ ?_
   | refine LeO.bind ?_ (fun _ => ?_)
  ·
   intro y0 y1 y2 y3 y4 y5 y6
   unfold spec_TableOfScales.l0
   repeat' first
   | (with_reducible exact ih0 _ _ _)
   | (with_reducible exact ih1 _ _ _ _ _ _ _)
   | (with_reducible exact ih2 _ _ _ _ _ _ _ _ _ _ _ _)
   | (with_reducible exact spec_l1All.mono _ _ _ _)
   | (with_reducible exact LeO.refl _)
   | (with_reducible exact LeO.none _)
   | (with_reducible refine LeO.ite ?_ ?_)
   | (with_reducible refine LeO.bind ?_ (fun _ => ?_))
   | exact ih0 _ _ _
   | exact ih1 _ _ _ _ _ _ _
   | exact ih2 _ _ _ _ _ _ _ _ _ _ _ _
   | exact spec_l1All.mono _ _ _ _
   | exact LeO.none _
   | refine LeO.ite ?_ ?_
   | refine LeO.bind ?_ (fun _ => ?_)
  ·
   intro y0 y1 y2 y3 y4 y5 y6 y7 y8 y9 y10 y11
   unfold spec_TableOfScales.l1
   repeat' first
   | (with_reducible exact ih0 _ _ _)
   | (with_reducible exact ih1 _ _ _ _ _ _ _)
   | (with_reducible exact ih2 _ _ _ _ _ _ _ _ _ _ _ _)
   | (with_reducible exact spec_l1All.mono _ _ _ _)
   | (with_reducible exact LeO.refl _)
   | (with_reducible exact LeO.none _)
   | (with_reducible refine LeO.ite ?_ ?_)
   | (with_reducible refine LeO.bind ?_ (fun _ => ?_))
   | exact ih0 _ _ _
   | exact ih1 _ _ _ _ _ _ _
   | exact ih2 _ _ _ _ _ _ _ _ _ _ _ _
   | exact spec_l1All.mono _ _ _ _
   | exact LeO.none _
   | refine LeO.ite ?_ ?_
   | refine LeO.bind ?_ (fun _ => ?_)
theorem spec_TableOfScales.mono : ∀ a0 a1 k, LeO (spec_TableOfScales.f k a0 a1) (spec_TableOfScales.f (k + 1) a0 a1) := by
 intro a0 a1 k
 obtain ⟨ih0, ih1, ih2⟩ := spec_TableOfScales.mono_l k
 unfold spec_TableOfScales.f
 repeat' first
   | (with_reducible exact ih0 _ _ _)
   | (with_reducible exact ih1 _ _ _ _ _ _ _)
   | (with_reducible exact ih2 _ _ _ _ _ _ _ _ _ _ _ _)
   | (with_reducible exact spec_l1All.mono _ _ _ _)
   | (with_reducible exact LeO.refl _)
   | (with_reducible exact LeO.none _)
   | (with_reducible refine LeO.ite ?_ ?_)
   | (with_reducible refine LeO.bind ?_ (fun _ => ?_))
   | exact ih0 _ _ _
   | exact ih1 _ _ _ _ _ _ _
   | exact ih2 _ _ _ _ _ _ _ _ _ _ _ _
   | exact spec_l1All.mono _ _ _ _
   | exact LeO.none _
   | refine LeO.ite ?_ ?_
   | refine LeO.bind ?_ (fun _ => ?_)
set_option maxRecDepth 100000 in
set_option maxHeartbeats 20000000 in
theorem spec_TableOfScales.ac (k : Nat) (l0 : List Int) (l1 : List Int) (r1 : Int) (r2 : Int) (r3 : List Int) (r4 : Bool) (h : spec_TableOfScales.f k l0 l1 = some (r1, r2, r3, r4)) :
  ACalls Try.prog 78 [.row 1 l0.length false (ints .i64 l0), .row 1 l1.length false (ints .i64 l1)] [] (fun v H' => v = .tup [.agg [.lit (.int .i64 r1), .lit (.int .i64 r2), .own 0 r3.length], .lit (.bool r4)] ∧ H' = [.sl 3 1 r3.length false (ints .i64 r3)]) := by
 refine ACalls.ofV Try.func78 rfl (by exact Nat.le_of_ble_eq_true rfl) ?_
 simp only [Try.ntmps78, env0, spec_TableOfScales.f] at h ⊢
 pl_ h
 refine AWp.seq ?_
 refine AWp.region ?_
 refine L.M (M.al Y28) ?_
 refine L.Y Y.asg ?_
 refine AList.nil ?_
 refine AWp.seq ?_
 refine AWp.seq ?_
 refine AWp.region ?_
 refine L.Y Y.mv ?_
 refine L.Y (Y.ln Try.underlying22) ?_
 pl_ h
 obtain ⟨t124, hc1, h⟩ := Option.bind_eq_some_iff.1 h
 pl_ h
 refine L.C (C.callE (l := true) [] Try.func46 (spec_l1In.ac _ _ _ _ hc1) .nil ?_)
 refine L.Y Y.nt ?_
 refine L.Y Y.mv ?_
 refine L.Gc (fun hb => ?_) (fun hb => ?_)
 ·
  have hb2 := hb
  sb_ hb
  rw_ hb2 hb h
  pl_ h
  refine L.Gn hb2 ?_
  refine L.Gn hb2 ?_
  refine L.Gn hb2 ?_
  refine L.Gn hb2 ?_
  refine L.Y (Y.pk (c := true) hb2) ?_
  refine L.Y Y.mv ?_
  refine L.Gc (fun hb => ?_) (fun hb => ?_)
  rotate_left
  ·
   dd_ hb
  have hb3 := hb
  refine L.Gn hb3 ?_
  refine L.Gn hb3 ?_
  refine L.Gn hb3 ?_
  refine L.Y (Y.pk (c := true) hb3) ?_
  refine L.Y Y.mv ?_
  refine L.Gc (fun hb => ?_) (fun hb => ?_)
  rotate_left
  ·
   dd_ hb
  have hb4 := hb
  refine L.Gn hb4 ?_
  refine L.Gn hb4 ?_
  refine L.Gn hb4 ?_
  refine L.Y (Y.pk (c := true) hb4) ?_
  refine AList.nil ?_
  rcases k with _ | k
  ·
   exact absurd h (by simp [spec_TableOfScales.j0])
  simp only [spec_TableOfScales.j0] at h
  pl_ h
  refine W.cond (fun hb => ?_) (fun hb => ?_)
  rotate_left
  ·
   dd_ hb
  have hb5 := hb
  try (rw_ hb5 hb h)
  pl_ h
  refine AWp.seq ?_
  refine W.kp [0, 1, 4, 5, 31] ?_
  refine AWp.region ?_
  refine L.Y (Y.bd Try.underlying28 Y28 P28) ?_
  refine L.S (S.stb Y28) ?_
  refine L.Y Y.asg ?_
  refine AList.nil ?_
  pl_ h
  simp only [Option.some.injEq, Prod.mk.injEq] at h
  obtain ⟨rfl, rfl, rfl, rfl⟩ := h
  refine AWp.ret ?_
  exact ⟨.inr rfl, _, _, _, Res.c2 Try.underlying28 Y28, ⟨rfl, rfl⟩, PartV.at [(3, 1)] [1] base0 (H.c .nil)⟩
 ·
  have hb2 := hb
  sb_ hb
  rw_ hb2 hb h
  pl_ h
  refine L.Gy hb2 Y.mv ?_
  refine L.Gy hb2 (Y.ln Try.underlying22) ?_
  pl_ h
  obtain ⟨t125, hc6, h⟩ := Option.bind_eq_some_iff.1 h
  pl_ h
  refine L.GC hb2 (C.callE (l := true) [] Try.func46 (spec_l1In.ac _ _ _ _ hc6) .nil ?_)
  refine L.Gy hb2 Y.nt ?_
  refine L.Y (Y.pk (c := false) hb2) ?_
  refine L.Y Y.mv ?_
  refine L.Gc (fun hb => ?_) (fun hb => ?_)
  ·
   have hb7 := hb
   sb_ hb
   rw_ hb7 hb h
   pl_ h
   refine L.Gn hb7 ?_
   refine L.Gn hb7 ?_
   refine L.Gn hb7 ?_
   refine L.Y (Y.pk (c := true) hb7) ?_
   refine L.Y Y.mv ?_
   refine L.Gc (fun hb => ?_) (fun hb => ?_)
   rotate_left
   ·
    dd_ hb
   have hb8 := hb
   refine L.Gn hb8 ?_
   refine L.Gn hb8 ?_
   refine L.Gn hb8 ?_
   refine L.Y (Y.pk (c := true) hb8) ?_
   refine AList.nil ?_
   rcases k with _ | k
   ·
    exact absurd h (by simp [spec_TableOfScales.j0])
   simp only [spec_TableOfScales.j0] at h
   pl_ h
   refine W.cond (fun hb => ?_) (fun hb => ?_)
   rotate_left
   ·
    dd_ hb
   have hb9 := hb
   try (rw_ hb9 hb h)
   pl_ h
   refine AWp.seq ?_
   refine W.kp [0, 1, 4, 5, 31] ?_
   refine AWp.region ?_
   refine L.Y (Y.bd Try.underlying28 Y28 P28) ?_
   refine L.S (S.stb Y28) ?_
   refine L.Y Y.asg ?_
   refine AList.nil ?_
   pl_ h
   simp only [Option.some.injEq, Prod.mk.injEq] at h
   obtain ⟨rfl, rfl, rfl, rfl⟩ := h
   refine AWp.ret ?_
   exact ⟨.inr rfl, _, _, _, Res.c2 Try.underlying28 Y28, ⟨rfl, rfl⟩, PartV.at [(3, 1)] [1] base0 (H.c .nil)⟩
  ·
   have hb7 := hb
   sb_ hb
   rw_ hb7 hb h
   pl_ h
   refine L.Gy hb7 Y.mv ?_
   pl_ h
   obtain ⟨t126, hc10, h⟩ := Option.bind_eq_some_iff.1 h
   pl_ h
   refine L.GC hb7 (C.callE (l := true) [] Try.func79 (spec_l1All.ac _ _ _ _ _ hc10) .nil ?_)
   refine L.Gy hb7 Y.nt ?_
   refine L.Y (Y.pk (c := false) hb7) ?_
   refine L.Y Y.mv ?_
   refine L.Gc (fun hb => ?_) (fun hb => ?_)
   ·
    have hb11 := hb
    sb_ hb
    rw_ hb11 hb h
    pl_ h
    refine L.Gn hb11 ?_
    refine L.Gn hb11 ?_
    refine L.Gn hb11 ?_
    refine L.Y (Y.pk (c := true) hb11) ?_
    refine AList.nil ?_
    rcases k with _ | k
    ·
     exact absurd h (by simp [spec_TableOfScales.j0])
    simp only [spec_TableOfScales.j0] at h
    pl_ h
    refine W.cond (fun hb => ?_) (fun hb => ?_)
    rotate_left
    ·
     dd_ hb
    have hb12 := hb
    try (rw_ hb12 hb h)
    pl_ h
    refine AWp.seq ?_
    refine W.kp [0, 1, 4, 5, 31] ?_
    refine AWp.region ?_
    refine L.Y (Y.bd Try.underlying28 Y28 P28) ?_
    refine L.S (S.stb Y28) ?_
    refine L.Y Y.asg ?_
    refine AList.nil ?_
    pl_ h
    simp only [Option.some.injEq, Prod.mk.injEq] at h
    obtain ⟨rfl, rfl, rfl, rfl⟩ := h
    refine AWp.ret ?_
    exact ⟨.inr rfl, _, _, _, Res.c2 Try.underlying28 Y28, ⟨rfl, rfl⟩, PartV.at [(3, 1)] [1] base0 (H.c .nil)⟩
   ·
    have hb11 := hb
    sb_ hb
    rw_ hb11 hb h
    pl_ h
    refine L.Gy hb11 Y.mv ?_
    pl_ h
    obtain ⟨t127, hc13, h⟩ := Option.bind_eq_some_iff.1 h
    pl_ h
    refine L.GC hb11 (C.callE (l := true) [] Try.func79 (spec_l1All.ac _ _ _ _ _ hc13) .nil ?_)
    refine L.Gy hb11 Y.nt ?_
    refine L.Y (Y.pk (c := false) hb11) ?_
    refine AList.nil ?_
    rcases k with _ | k
    ·
     exact absurd h (by simp [spec_TableOfScales.j0])
    simp only [spec_TableOfScales.j0] at h
    pl_ h
    refine W.cond (fun hb => ?_) (fun hb => ?_)
    ·
     have hb14 := hb
     sb_ hb
     rw_ hb14 hb h
     pl_ h
     refine AWp.seq ?_
     refine W.kp [0, 1, 4, 5, 31] ?_
     refine AWp.region ?_
     refine L.Y (Y.bd Try.underlying28 Y28 P28) ?_
     refine L.S (S.stb Y28) ?_
     refine L.Y Y.asg ?_
     refine AList.nil ?_
     pl_ h
     simp only [Option.some.injEq, Prod.mk.injEq] at h
     obtain ⟨rfl, rfl, rfl, rfl⟩ := h
     refine AWp.ret ?_
     exact ⟨.inr rfl, _, _, _, Res.c2 Try.underlying28 Y28, ⟨rfl, rfl⟩, PartV.at [(3, 1)] [1] base0 (H.c .nil)⟩
    ·
     have hb14 := hb
     sb_ hb
     rw_ hb14 hb h
     pl_ h
     refine AWp.skip ?_
     refine AWp.seq ?_
     refine W.kp [0, 1, 4, 5, 31] ?_
     refine AWp.region ?_
     refine L.Y Y.mv ?_
     refine L.Y (Y.ln Try.underlying22) ?_
     refine L.Y Y.mv ?_
     refine L.Y (Y.ln Try.underlying22) ?_
     refine L.Y (Y.bd Try.underlying28 Y28 P28) ?_
     refine L.M (M.al Y28) ?_
     refine L.S (S.stb Y28) ?_
     refine AList.nil ?_
     refine AWp.seq ?_
     refine AWp.seq ?_
     refine W.kp [0, 1, 4, 5, 6, 31] ?_
     refine AWp.region ?_
     refine L.Y Y.mv ?_
     refine L.Y (Y.ln Try.underlying22) ?_
     refine L.Y Y.mv ?_
     refine AList.nil ?_
     refine AWp.block ?_
     pl_ h
     refine AWp.loopI (fun kk e H => kk ≤ k ∧ ∃ (x39 : Int) (x40 : Int) (x124000 : Int) (x124001 : Int) (x129000 : Int) (x129001 : Int) (x129002 : List Int), e = [(1, .row 1 l1.length false (ints .i64 l1)), (4, .ptr 0 0), (6, .ptr 1 0), (38, .row 1 l0.length false (ints .i64 l0)), (39, .lit (.int .i64 x39)), (40, .lit (.int .i64 x40))] ∧ H = [.bx 28 [.lit (.int .i64 x124000), .lit (.int .i64 x124001), .lit (.slice none 0 0)], .bx 28 [.lit (.int .i64 x129000), .lit (.int .i64 x129001), .own 2 x129002.length], .sl 3 1 x129002.length false (ints .i64 x129002)] ∧ spec_TableOfScales.l0 kk l1 l0 x39 x40 x129000 x129001 x129002 = some (r1, r2, r3, r4)) (k := k)
      ⟨_, _, ⟨Nat.le_refl _, _, _, _, _, _, _, _, rfl, rfl, h⟩, IsPart.at [(3, 1)] [0, 1, 2] base0 (H.c (H.c (H.c .nil))) (E.c (E.c (E.c (E.c (E.c (E.c .nil))))))⟩ ?_
     clear h
     rintro k15 e H ⟨hk16, x39, x40, x124000, x124001, x129000, x129001, x129002, rfl, rfl, h⟩
     cases k15 with
     | zero => exact absurd h (by simp [spec_TableOfScales.l0])
     | succ k15 =>
     simp only [spec_TableOfScales.l0] at h
     pl_ h
     refine AWp.seq ?_
     refine AWp.region ?_
     refine L.Y Y.bin ?_
     refine AList.nil ?_
     refine AWp.seq ?_
     refine W.cond (fun hb => ?_) (fun hb => ?_)
     ·
      have hb17 := hb
      sb_ hb
      rw_ hb17 hb h
      pl_ h
      refine AWp.skip ?_
      refine AWp.seq ?_
      refine AWp.block ?_
      refine AWp.seq ?_
      refine AWp.region ?_
      refine L.Y (Y.ixr Try.underlying22 Y3) ?_
      refine L.S (S.ld Try.underlying3) ?_
      refine L.Y Y.asg ?_
      refine AList.nil ?_
      refine AWp.seq ?_
      refine AWp.region ?_
      refine L.Y Y.asg ?_
      refine AList.nil ?_
      refine AWp.seq ?_
      refine AWp.seq ?_
      refine AWp.region ?_
      refine L.Y Y.mv ?_
      refine L.Y (Y.ln Try.underlying22) ?_
      refine L.Y Y.mv ?_
      refine AList.nil ?_
      refine AWp.block ?_
      pl_ h
      refine AWp.loopI (fun kk e H => kk ≤ k15 ∧ ∃ (x8 : Int) (x9 : Int) (x39 : Int) (x40 : Int) (x45 : Int) (x46 : Int) (x124000 : Int) (x124001 : Int) (x129000 : Int) (x129001 : Int) (x129002 : List Int), e = [(1, .row 1 l1.length false (ints .i64 l1)), (4, .ptr 0 0), (6, .ptr 1 0), (8, .lit (.int .i64 x8)), (9, .lit (.int .i64 x9)), (38, .row 1 l0.length false (ints .i64 l0)), (39, .lit (.int .i64 x39)), (40, .lit (.int .i64 x40)), (44, .row 1 l1.length false (ints .i64 l1)), (45, .lit (.int .i64 x45)), (46, .lit (.int .i64 x46))] ∧ H = [.bx 28 [.lit (.int .i64 x124000), .lit (.int .i64 x124001), .lit (.slice none 0 0)], .bx 28 [.lit (.int .i64 x129000), .lit (.int .i64 x129001), .own 2 x129002.length], .sl 3 1 x129002.length false (ints .i64 x129002)] ∧ spec_TableOfScales.l1 kk l1 x8 x9 l0 x39 x40 l1 x45 x46 x129000 x129001 x129002 = some (r1, r2, r3, r4)) (k := k15)
       ⟨_, _, ⟨Nat.le_refl _, _, _, _, _, _, _, _, _, _, _, _, rfl, rfl, h⟩, IsPart.at [] [0, 1, 2] base0 (H.c (H.c (H.c .nil))) (E.c (E.c (E.c (E.c (E.c (E.c (E.c (E.c (E.c (E.c (E.c .nil)))))))))))⟩ ?_
      clear h
      rintro k18 e H ⟨hk19, x8, x9, x39, x40, x45, x46, x124000, x124001, x129000, x129001, x129002, rfl, rfl, h⟩
      cases k18 with
      | zero => exact absurd h (by simp [spec_TableOfScales.l1])
      | succ k18 =>
      simp only [spec_TableOfScales.l1] at h
      pl_ h
      refine AWp.seq ?_
      refine AWp.region ?_
      refine L.Y Y.bin ?_
      refine AList.nil ?_
      refine AWp.seq ?_
      refine W.cond (fun hb => ?_) (fun hb => ?_)
      ·
       have hb20 := hb
       sb_ hb
       rw_ hb20 hb h
       pl_ h
       refine AWp.skip ?_
       refine AWp.seq ?_
       refine AWp.block ?_
       refine AWp.seq ?_
       refine AWp.region ?_
       refine L.Y Y.mv ?_
       refine L.Y (Y.ixr Try.underlying22 Y3) ?_
       refine L.S (S.ld Try.underlying3) ?_
       refine L.Y Y.asg ?_
       refine L.Y Y.asg ?_
       refine AList.nil ?_
       refine AWp.seq ?_
       refine AWp.region ?_
       refine L.Y Y.mv ?_
       refine L.Y Y.mv ?_
       refine L.Y Y.bin ?_
       refine AList.nil ?_
       refine W.cond (fun hb => ?_) (fun hb => ?_)
       ·
        have hb21 := hb
        sb_ hb
        rw_ hb21 hb h
        pl_ h
        refine W.kp [1, 4, 6, 8, 9, 10, 11, 38, 39, 40, 44, 45, 46, 47, 53] ?_
        refine AWp.region ?_
        refine L.Y Y.mv ?_
        refine L.Y Y.mv ?_
        refine L.Y Y.bin ?_
        refine L.Y Y.bin ?_
        refine L.Y Y.asg ?_
        refine AList.nil ?_
        refine W.kp [1, 4, 6, 8, 9, 10, 11, 38, 39, 40, 44, 45, 46, 47, 53] ?_
        refine AWp.region ?_
        refine L.Y Y.bin ?_
        refine L.Y Y.mv ?_
        refine AList.nil ?_
        pl_ h
        exact ⟨k18, by omega, _, _, ⟨by omega, _, _, _, _, _, _, _, _, _, _, _, rfl, rfl, h⟩, IsPart.at [] [0, 1, 2] base0 (H.c (H.c (H.c .nil))) (E.c (E.c (E.c (E.c (E.c (E.c (E.c (E.c (E.c (E.c (E.c .nil)))))))))))⟩
       ·
        have hb21 := hb
        sb_ hb
        rw_ hb21 hb h
        pl_ h
        refine AWp.skip ?_
        refine W.kp [1, 4, 6, 8, 9, 10, 11, 38, 39, 40, 44, 45, 46, 47, 53] ?_
        refine AWp.region ?_
        refine L.Y Y.bin ?_
        refine L.Y Y.mv ?_
        refine AList.nil ?_
        pl_ h
        exact ⟨k18, by omega, _, _, ⟨by omega, _, _, _, _, _, _, _, _, _, _, _, rfl, rfl, h⟩, IsPart.at [] [0, 1, 2] base0 (H.c (H.c (H.c .nil))) (E.c (E.c (E.c (E.c (E.c (E.c (E.c (E.c (E.c (E.c (E.c .nil)))))))))))⟩
      ·
       have hb20 := hb
       sb_ hb
       rw_ hb20 hb h
       pl_ h
       refine AWp.exit ?_
       refine AWp.region ?_
       refine L.Y (Y.fa (off := 2) Try.underlying28 Y22) ?_
       refine L.S (S.ld Try.underlying22) ?_
       refine L.Y Y.mv ?_
       refine L.M (M.bs Try.underlying22 Y3) ?_
       refine L.S (S.ap (nn' := false) Try.underlying22 Y3) ?_
       refine L.Y (Y.fa (off := 2) Try.underlying28 Y22) ?_
       refine L.S (S.stb Y22) ?_
       refine AList.nil ?_
       refine W.kp [1, 4, 6, 8, 9, 38, 39, 40, 44, 45, 46, 47] ?_
       refine AWp.region ?_
       refine L.Y Y.bin ?_
       refine L.Y Y.mv ?_
       refine AList.nil ?_
       pl_ h
       exact ⟨k18, by omega, _, _, ⟨by omega, _, _, _, _, _, _, _, rfl, rfl, h⟩, IsPart.at [] [0, 1, 2] base0 (H.c (H.c (H.c .nil))) (E.c (E.c (E.c (E.c (E.c (E.c .nil))))))⟩
     ·
      have hb17 := hb
      sb_ hb
      rw_ hb17 hb h
      pl_ h
      refine AWp.exit ?_
      refine AWp.seq ?_
      refine AWp.region ?_
      refine L.S (S.ldN Try.underlying28 Y28) ?_
      refine L.S (S.stb Y28) ?_
      refine L.Y Y.asg ?_
      refine AList.nil ?_
      pl_ h
      simp only [Option.some.injEq, Prod.mk.injEq] at h
      obtain ⟨rfl, rfl, rfl, rfl⟩ := h
      refine AWp.ret ?_
      exact ⟨.inr rfl, _, _, _, Res.c2 Try.underlying28 Y28, ⟨rfl, rfl⟩, PartV.at [] [2] base0 (H.c .nil)⟩

end Go.Proofs.Ytpippjgphndjmaa.PFnCovers
