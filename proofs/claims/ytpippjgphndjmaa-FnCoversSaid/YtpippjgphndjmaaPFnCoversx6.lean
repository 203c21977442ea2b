-- Written by a program of this session's (wip/myprint2): the functions by the kit's print, the walks by awgen.py. Lean checks it.
import Derived.Test.YtpippjgphndjmaaPFnCoversx0
import Derived.Test.YtpippjgphndjmaaPFnCoversx5
namespace Go.Proofs.Ytpippjgphndjmaa.PFnCovers
open Go.RowKit Go.Proofs.YtpippjgphndjmaaW.PrintWords Go.Proofs.YtpippjgphndjmaaW.PrintLast Go.Proofs.YtpippjgphndjmaaW.PrintMore Go.Proofs.YtpippjgphndjmaaM Go.Proofs.YtpippjgphndjmaaA
attribute [local go_sem] max2_int min2_int max_two min_two max_three min_three max_four min_four   -- for this text's walks alone
set_option linter.unusedVariables false
set_option linter.unusedSimpArgs false

/-! ### impl_Table_freeOrder: function 54 -/
mutual
def impl_Table_freeOrder.l0 : Nat → List Int → List Int → Int → Int → Int → Int → List Int → Option (List Int)
 | 0, _, _, _, _, _, _, _ => none
 | k + 1, x5, x15, x16, x17, x265000, x265001, x265002 => if x17 < x16 then (if 0 ≤ x17 then (if x17 < (x15.length : Int) then (impl_Table_freeOrder.l1 k x5 (rd x15 x17) x15 x16 x17 x265000 0 x265000 x265001 x265002) else (none)) else (none)) else (impl_Table_freeOrder.l2 k x5 (([] : List Int)) 0 x265000 x265001 x265002)
def impl_Table_freeOrder.l1 : Nat → List Int → Int → List Int → Int → Int → Int → Int → Int → Int → List Int → Option (List Int)
 | 0, _, _, _, _, _, _, _, _, _, _ => none
 | k + 1, x5, x7, x15, x16, x17, x22, x23, x265000, x265001, x265002 => if x23 < x22 then (if x265001 = 0 then (none) else ((impl_Table_marked.f x265000 x265001 x265002 x23 (Int.tmod x7 x265001)).bind fun t269 => (if t269 = true then (if 0 ≤ x23 then (if x23 < (x5.length : Int) then (if 0 ≤ (wrap64 (Int.tdiv x7 x265001)) then (impl_Table_freeOrder.l1 k (x5.set (x23 : Int).toNat (Go.bits .or .i64 (rd x5 x23) (shl .i64 1 (wrap64 (Int.tdiv x7 x265001))))) x7 x15 x16 x17 x22 (wrap64 (x23 + 1)) x265000 x265001 x265002) else (none)) else (none)) else (none)) else (impl_Table_freeOrder.l1 k x5 x7 x15 x16 x17 x22 (wrap64 (x23 + 1)) x265000 x265001 x265002)))) else (impl_Table_freeOrder.l0 k x5 x15 x16 (wrap64 (x17 + 1)) x265000 x265001 x265002)
def impl_Table_freeOrder.l2 : Nat → List Int → List Int → Int → Int → Int → List Int → Option (List Int)
 | 0, _, _, _, _, _, _ => none
 | k + 1, x5, x9, x10, x265000, x265001, x265002 => if (x9.length : Int) < x265000 then (impl_Table_freeOrder.l3 k x5 x9 x10 0 x265000 x265001 x265002) else (if x9 = [] then (none) else (some x9))
def impl_Table_freeOrder.l3 : Nat → List Int → List Int → Int → Int → Int → Int → List Int → Option (List Int)
 | 0, _, _, _, _, _, _, _ => none
 | k + 1, x5, x9, x10, x11, x265000, x265001, x265002 => if x11 < x265000 then (if 0 ≤ x11 then (if (Go.bits .and .i64 (shr .i64 x10 x11) 1) = 1 then (impl_Table_freeOrder.l3 k x5 x9 x10 (wrap64 (x11 + 1)) x265000 x265001 x265002) else (if x11 < (x5.length : Int) then (if (Go.bits .andNot .i64 (rd x5 x11) x10) = 0 then (if x11 = x265000 then (some ([] : List Int)) else (if x9.length < 17592186044416 then (impl_Table_freeOrder.l2 k x5 (x9 ++ [x11]) (Go.bits .or .i64 x10 (shl .i64 1 x11)) x265000 x265001 x265002) else (none))) else (impl_Table_freeOrder.l3 k x5 x9 x10 (wrap64 (x11 + 1)) x265000 x265001 x265002)) else (none))) else (none)) else (if x11 = x265000 then (some ([] : List Int)) else (if x9.length < 17592186044416 then (if 0 ≤ x11 then (impl_Table_freeOrder.l2 k x5 (x9 ++ [x11]) (Go.bits .or .i64 x10 (shl .i64 1 x11)) x265000 x265001 x265002) else (none)) else (none)))
end
def impl_Table_freeOrder.f (k : Nat) (a0_0 : Int) (a0_1 : Int) (l0_2 : List Int) (l1 : List Int) : Option (List Int) := if 0 ≤ a0_0 then (if (a0_0 : Int).toNat ≤ 35184372088832 then (impl_Table_freeOrder.l0 k (List.replicate (a0_0 : Int).toNat 0) l1 (l1.length : Int) 0 a0_0 a0_1 l0_2) else (none)) else (none)
theorem impl_Table_freeOrder.mono_l : ∀ k, (∀ y0 y1 y2 y3 y4 y5 y6, LeO (impl_Table_freeOrder.l0 k y0 y1 y2 y3 y4 y5 y6) (impl_Table_freeOrder.l0 (k + 1) y0 y1 y2 y3 y4 y5 y6)) ∧ (∀ y0 y1 y2 y3 y4 y5 y6 y7 y8 y9, LeO (impl_Table_freeOrder.l1 k y0 y1 y2 y3 y4 y5 y6 y7 y8 y9) (impl_Table_freeOrder.l1 (k + 1) y0 y1 y2 y3 y4 y5 y6 y7 y8 y9)) ∧ (∀ y0 y1 y2 y3 y4 y5, LeO (impl_Table_freeOrder.l2 k y0 y1 y2 y3 y4 y5) (impl_Table_freeOrder.l2 (k + 1) y0 y1 y2 y3 y4 y5)) ∧ (∀ y0 y1 y2 y3 y4 y5 y6, LeO (impl_Table_freeOrder.l3 k y0 y1 y2 y3 y4 y5 y6) (impl_Table_freeOrder.l3 (k + 1) y0 y1 y2 y3 y4 y5 y6))
 | 0 => ⟨fun _ _ _ _ _ _ _ r h => by simp [impl_Table_freeOrder.l0] at h, fun _ _ _ _ _ _ _ _ _ _ r h => by simp [impl_Table_freeOrder.l1] at h, fun _ _ _ _ _ _ r h => by simp [impl_Table_freeOrder.l2] at h, fun _ _ _ _ _ _ _ r h => by simp [impl_Table_freeOrder.l3] at h⟩
 | k + 1 => by
  obtain ⟨ih0, ih1, ih2, ih3⟩ := impl_Table_freeOrder.mono_l k
  refine ⟨?_, ?_, ?_, ?_⟩
  ·
   intro y0 y1 y2 y3 y4 y5 y6
   unfold impl_Table_freeOrder.l0
   repeat' first
   | (with_reducible exact ih0 _ _ _ _ _ _ _)
   | (with_reducible exact ih1 _ _ _ _ _ _ _ _ _ _)
   | (with_reducible exact ih2 _ _ _ _ _ _)
   | (with_reducible exact ih3 _ _ _ _ _ _ _)
   | (with_reducible exact LeO.refl _)
   | (with_reducible exact LeO.none _)
   | (with_reducible refine LeO.ite ?_ ?_)
   | (with_reducible refine LeO.bind ?_ (fun _ => ?_))
   | exact ih0 _ _ _ _ _ _ _
   | exact ih1 _ _ _ _ _ _ _ _ _ _
   | exact ih2 _ _ _ _ _ _
   | exact ih3 _ _ _ _ _ _ _
   | exact LeO.none _
   | refine LeO.ite ?_ ?_
   | refine LeO.bind ?_ (fun _ => ?_)
  ·
   intro y0 y1 y2 y3 y4 y5 y6 y7 y8 y9
   unfold impl_Table_freeOrder.l1
   repeat' first
   | (with_reducible exact ih0 _ _ _ _ _ _ _)
   | (with_reducible exact ih1 _ _ _ _ _ _ _ _ _ _)
   | (with_reducible exact ih2 _ _ _ _ _ _)
   | (with_reducible exact ih3 _ _ _ _ _ _ _)
   | (with_reducible exact LeO.refl _)
   | (with_reducible exact LeO.none _)
   | (with_reducible refine LeO.ite ?_ ?_)
   | (with_reducible refine LeO.bind ?_ (fun _ => ?_))
   | exact ih0 _ _ _ _ _ _ _
   | exact ih1 _ _ _ _ _ _ _ _ _ _
   | exact ih2 _ _ _ _ _ _
   | exact ih3 _ _ _ _ _ _ _
   | exact LeO.none _
   | refine LeO.ite ?_ ?_
   | refine LeO.bind ?_ (fun _ => ?_)
  ·
   intro y0 y1 y2 y3 y4 y5
   unfold impl_Table_freeOrder.l2
   repeat' first
   | (with_reducible exact ih0 _ _ _ _ _ _ _)
   | (with_reducible exact ih1 _ _ _ _ _ _ _ _ _ _)
   | (with_reducible exact ih2 _ _ _ _ _ _)
   | (with_reducible exact ih3 _ _ _ _ _ _ _)
   | (with_reducible exact LeO.refl _)
   | (with_reducible exact LeO.none _)
   | (with_reducible refine LeO.ite ?_ ?_)
   | (with_reducible refine LeO.bind ?_ (fun _ => ?_))
   | exact ih0 _ _ _ _ _ _ _
   | exact ih1 _ _ _ _ _ _ _ _ _ _
   | exact ih2 _ _ _ _ _ _
   | exact ih3 _ _ _ _ _ _ _
   | exact LeO.none _
   | refine LeO.ite ?_ ?_
   | refine LeO.bind ?_ (fun _ => ?_)
  ·
   intro y0 y1 y2 y3 y4 y5 y6
   unfold impl_Table_freeOrder.l3
   repeat' first
   | (with_reducible exact ih0 _ _ _ _ _ _ _)
   | (with_reducible exact ih1 _ _ _ _ _ _ _ _ _ _)
   | (with_reducible exact ih2 _ _ _ _ _ _)
   | (with_reducible exact ih3 _ _ _ _ _ _ _)
   | (with_reducible exact LeO.refl _)
   | (with_reducible exact LeO.none _)
   | (with_reducible refine LeO.ite ?_ ?_)
   | (with_reducible refine LeO.bind ?_ (fun _ => ?_))
   | exact ih0 _ _ _ _ _ _ _
   | exact ih1 _ _ _ _ _ _ _ _ _ _
   | exact ih2 _ _ _ _ _ _
   | exact ih3 _ _ _ _ _ _ _
   | exact LeO.none _
   | refine LeO.ite ?_ ?_
   | refine LeO.bind ?_ (fun _ => ?_)
theorem impl_Table_freeOrder.mono : ∀ a0 a1 a2 a3 k, LeO (impl_Table_freeOrder.f k a0 a1 a2 a3) (impl_Table_freeOrder.f (k + 1) a0 a1 a2 a3) := by
 intro a0 a1 a2 a3 k
 obtain ⟨ih0, ih1, ih2, ih3⟩ := impl_Table_freeOrder.mono_l k
 unfold impl_Table_freeOrder.f
 repeat' first
   | (with_reducible exact ih0 _ _ _ _ _ _ _)
   | (with_reducible exact ih1 _ _ _ _ _ _ _ _ _ _)
   | (with_reducible exact ih2 _ _ _ _ _ _)
   | (with_reducible exact ih3 _ _ _ _ _ _ _)
   | (with_reducible exact LeO.refl _)
   | (with_reducible exact LeO.none _)
   | (with_reducible refine LeO.ite ?_ ?_)
   | (with_reducible refine LeO.bind ?_ (fun _ => ?_))
   | exact ih0 _ _ _ _ _ _ _
   | exact ih1 _ _ _ _ _ _ _ _ _ _
   | exact ih2 _ _ _ _ _ _
   | exact ih3 _ _ _ _ _ _ _
   | exact LeO.none _
   | refine LeO.ite ?_ ?_
   | refine LeO.bind ?_ (fun _ => ?_)
set_option maxRecDepth 100000 in
set_option maxHeartbeats 20000000 in
theorem impl_Table_freeOrder.acq (k : Nat) (a0_0 : Int) (a0_1 : Int) (l0_2 : List Int) (l1 : List Int) (r : List Int) (h : impl_Table_freeOrder.f k a0_0 a0_1 l0_2 l1 = some r) :
  ACalls Try.prog 54 [.agg [.lit (.int .i64 a0_0), .lit (.int .i64 a0_1), .row 1 l0_2.length false (ints .i64 l0_2)], .row 1 l1.length false (ints .i64 l1)] [] (fun v H' => (r = [] ∧ v = .lit (.slice none 0 0) ∧ H' = []) ∨ (r ≠ [] ∧ v = .own 0 r.length ∧ H' = [.sl 3 1 r.length true (ints .i64 r)])) := by
 refine ACalls.ofP [4] Try.func54 rfl (by exact Nat.le_of_ble_eq_true rfl) rfl (by decide) ?_
 simp only [Try.ntmps54, env0, impl_Table_freeOrder.f] at h ⊢
 pl_ h
 refine AWp.seq ?_
 refine AWp.region ?_
 refine L.M M.bx ?_
 refine L.Y Y.asg ?_
 refine AList.nil ?_
 refine AWp.seq ?_
 refine AWp.region ?_
 refine L.Y (Y.fa (off := 0) Try.underlying28 Y3) ?_
 refine L.S (S.ld Try.underlying3) ?_
 refine L.M (M.mk Try.underlying22 Y3) ?_
 refine L.Y Y.asg ?_
 refine AList.nil ?_
 refine AWp.seq ?_
 refine AWp.seq ?_
 refine AWp.region ?_
 refine L.Y Y.mv ?_
 refine L.Y (Y.ln Try.underlying22) ?_
 refine L.Y Y.mv ?_
 refine AList.nil ?_
 refine AWp.block ?_
 pl_ h
 refine AWp.loopI (fun kk e H => kk ≤ k ∧ ∃ (x5 : List Int) (x16 : Int) (x17 : Int) (x265000 : Int) (x265001 : Int), e = [(2, .ptr 0 0), (4, .lit (.slice none 0 0)), (5, .own 1 x5.length), (15, .row 1 l1.length false (ints .i64 l1)), (16, .lit (.int .i64 x16)), (17, .lit (.int .i64 x17))] ∧ H = [.bx 28 [.lit (.int .i64 x265000), .lit (.int .i64 x265001), .row 1 l0_2.length false (ints .i64 l0_2)], .sl 3 1 x5.length true (ints .i64 x5)] ∧ impl_Table_freeOrder.l0 kk x5 l1 x16 x17 x265000 x265001 l0_2 = some r) (k := k)
  ⟨_, _, ⟨Nat.le_refl _, _, _, _, _, _, rfl, rfl, h⟩, IsPart.at [] [0, 1] base0 (H.c (H.c .nil)) (E.c (E.c (E.c (E.c (E.c (E.c .nil))))))⟩ ?_
 clear h
 rintro k1 e H ⟨hk2, x5, x16, x17, x265000, x265001, rfl, rfl, h⟩
 cases k1 with
 | zero => exact absurd h (by simp [impl_Table_freeOrder.l0])
 | succ k1 =>
 simp only [impl_Table_freeOrder.l0] at h
 pl_ h
 refine AWp.seq ?_
 refine AWp.region ?_
 refine L.Y Y.bin ?_
 refine AList.nil ?_
 refine AWp.seq ?_
 refine W.cond (fun hb => ?_) (fun hb => ?_)
 ·
  have hb3 := hb
  sb_ hb
  rw_ hb3 hb h
  pl_ h
  refine AWp.skip ?_
  refine AWp.seq ?_
  refine AWp.block ?_
  refine AWp.seq ?_
  refine AWp.region ?_
  refine L.Y (Y.ixr Try.underlying22 Y3) ?_
  refine L.S (S.ld Try.underlying3) ?_
  refine L.Y Y.asg ?_
  refine AList.nil ?_
  refine AWp.seq ?_
  refine AWp.region ?_
  refine L.Y (Y.fa (off := 0) Try.underlying28 Y3) ?_
  refine L.S (S.ld Try.underlying3) ?_
  refine L.Y Y.mv ?_
  refine AList.nil ?_
  refine AWp.block ?_
  pl_ h
  refine AWp.loopI (fun kk e H => kk ≤ k1 ∧ ∃ (x5 : List Int) (x7 : Int) (x16 : Int) (x17 : Int) (x22 : Int) (x23 : Int) (x265000 : Int) (x265001 : Int), e = [(2, .ptr 0 0), (4, .lit (.slice none 0 0)), (5, .own 1 x5.length), (7, .lit (.int .i64 x7)), (15, .row 1 l1.length false (ints .i64 l1)), (16, .lit (.int .i64 x16)), (17, .lit (.int .i64 x17)), (22, .lit (.int .i64 x22)), (23, .lit (.int .i64 x23))] ∧ H = [.bx 28 [.lit (.int .i64 x265000), .lit (.int .i64 x265001), .row 1 l0_2.length false (ints .i64 l0_2)], .sl 3 1 x5.length true (ints .i64 x5)] ∧ impl_Table_freeOrder.l1 kk x5 x7 l1 x16 x17 x22 x23 x265000 x265001 l0_2 = some r) (k := k1)
   ⟨_, _, ⟨Nat.le_refl _, _, _, _, _, _, _, _, _, rfl, rfl, h⟩, IsPart.at [] [0, 1] base0 (H.c (H.c .nil)) (E.c (E.c (E.c (E.c (E.c (E.c (E.c (E.c (E.c .nil)))))))))⟩ ?_
  clear h
  rintro k4 e H ⟨hk5, x5, x7, x16, x17, x22, x23, x265000, x265001, rfl, rfl, h⟩
  cases k4 with
  | zero => exact absurd h (by simp [impl_Table_freeOrder.l1])
  | succ k4 =>
  simp only [impl_Table_freeOrder.l1] at h
  pl_ h
  refine AWp.seq ?_
  refine AWp.region ?_
  refine L.Y Y.bin ?_
  refine AList.nil ?_
  refine AWp.seq ?_
  refine W.cond (fun hb => ?_) (fun hb => ?_)
  ·
   have hb6 := hb
   sb_ hb
   rw_ hb6 hb h
   pl_ h
   refine AWp.skip ?_
   refine AWp.seq ?_
   refine AWp.block ?_
   refine AWp.seq ?_
   refine AWp.region ?_
   refine L.Y Y.mv ?_
   refine L.Y Y.asg ?_
   refine AList.nil ?_
   refine AWp.seq ?_
   refine Dt.reg [] [] (.t 0 (.y 1 (.y 2 (.y 3 (.t 4 (.y 5 (.one 6 .done))))))) HM ?_
   refine Dt.T rfl wantN (D.ldN Try.underlying28 Y28) ?_
   refine Dt.Y rfl wantN Y.mv ?_
   refine Dt.Y rfl wantN Y.mv ?_
   refine Dt.Y rfl wantN (Y.fa (off := 1) Try.underlying28 Y3) ?_
   refine Dt.T rfl wantN (D.ld Try.underlying3) ?_
   refine Dt.Y rfl wantN Y.bin ?_
   refine Dt.O (g' := false) rfl wantN ?_
   pl_ h
   obtain ⟨t269, hc7, h⟩ := Option.bind_eq_some_iff.1 h
   pl_ h
   refine Ox.C true [] Try.func60 (impl_Table_marked.ac _ _ _ _ _ _ hc7) .nil ?_
   refine Dt.nil ?_
   refine W.cond (fun hb => ?_) (fun hb => ?_)
   ·
    have hb8 := hb
    sb_ hb
    rw_ hb8 hb h
    pl_ h
    refine W.kp [2, 4, 5, 7, 8, 15, 16, 17, 22, 23, 24, 32] ?_
    refine Dt.reg [] [11] (.y 0 (.y 1 (.y 2 (.t 3 (.y 4 (.y 5 (.t 6 (.y 7 (.y 8 (.y 9 (.y 10 (.last 11 .done)))))))))))) HM ?_
    refine Dt.Y rfl wantN Y.mv ?_
    refine Dt.Y rfl wantN Y.mv ?_
    refine Dt.Y rfl wantN (Y.ixo Try.underlying22 Y3) ?_
    refine Dt.T rfl wantN (D.ld Try.underlying3) ?_
    refine Dt.Y rfl wantN Y.mv ?_
    refine Dt.Y rfl wantN (Y.fa (off := 1) Try.underlying28 Y3) ?_
    refine Dt.T rfl wantN (D.ld Try.underlying3) ?_
    refine Dt.Y rfl wantN Y.bin ?_
    refine Dt.Y rfl wantN Y.bin ?_
    refine Dt.Y rfl wantN Y.bin ?_
    refine Dt.Y rfl wantN (Y.ixo Try.underlying22 Y3) ?_
    refine Dt.L rfl wantN ?_
    refine Op.S (S.sts Y3) ?_
    refine Du.nil ?_
    refine W.kp [2, 4, 5, 7, 8, 15, 16, 17, 22, 23, 24, 32] ?_
    refine AWp.region ?_
    refine L.Y Y.bin ?_
    refine L.Y Y.mv ?_
    refine AList.nil ?_
    pl_ h
    exact ⟨k4, by omega, _, _, ⟨by omega, _, _, _, _, _, _, _, _, rfl, rfl, h⟩, IsPart.at [] [0, 1] base0 (H.c (H.c .nil)) (E.c (E.c (E.c (E.c (E.c (E.c (E.c (E.c (E.c .nil)))))))))⟩
   ·
    have hb8 := hb
    sb_ hb
    rw_ hb8 hb h
    pl_ h
    refine AWp.skip ?_
    refine W.kp [2, 4, 5, 7, 8, 15, 16, 17, 22, 23, 24, 32] ?_
    refine AWp.region ?_
    refine L.Y Y.bin ?_
    refine L.Y Y.mv ?_
    refine AList.nil ?_
    pl_ h
    exact ⟨k4, by omega, _, _, ⟨by omega, _, _, _, _, _, _, _, _, rfl, rfl, h⟩, IsPart.at [] [0, 1] base0 (H.c (H.c .nil)) (E.c (E.c (E.c (E.c (E.c (E.c (E.c (E.c (E.c .nil)))))))))⟩
  ·
   have hb6 := hb
   sb_ hb
   rw_ hb6 hb h
   pl_ h
   refine AWp.exit ?_
   refine AWp.region ?_
   refine L.Y Y.bin ?_
   refine L.Y Y.mv ?_
   refine AList.nil ?_
   pl_ h
   exact ⟨k4, by omega, _, _, ⟨by omega, _, _, _, _, _, rfl, rfl, h⟩, IsPart.at [] [0, 1] base0 (H.c (H.c .nil)) (E.c (E.c (E.c (E.c (E.c (E.c .nil))))))⟩
 ·
  have hb3 := hb
  sb_ hb
  rw_ hb3 hb h
  pl_ h
  refine AWp.exit ?_
  refine AWp.seq ?_
  refine AWp.region ?_
  refine L.M (M.bs Try.underlying22 Y3) ?_
  refine L.Y Y.asg ?_
  refine L.Y Y.asg ?_
  refine AList.nil ?_
  refine AWp.seq ?_
  refine AWp.block ?_
  pl_ h
  refine AWp.loopI (fun kk e H => kk ≤ k1 ∧ ∃ (x5 : List Int) (x9 : List Int) (x10 : Int) (x265000 : Int) (x265001 : Int), e = [(2, .ptr 0 0), (5, .own 1 x5.length), (9, .own 2 x9.length), (10, .lit (.int .i64 x10))] ∧ H = [.bx 28 [.lit (.int .i64 x265000), .lit (.int .i64 x265001), .row 1 l0_2.length false (ints .i64 l0_2)], .sl 3 1 x5.length true (ints .i64 x5), .sl 3 1 x9.length true (ints .i64 x9)] ∧ impl_Table_freeOrder.l2 kk x5 x9 x10 x265000 x265001 l0_2 = some r) (k := k1)
   ⟨_, _, ⟨Nat.le_refl _, _, _, _, _, _, rfl, rfl, h⟩, IsPart.at [] [0, 1, 2] base0 (H.c (H.c (H.c .nil))) (E.c (E.c (E.c (E.c .nil))))⟩ ?_
  clear h
  rintro k9 e H ⟨hk10, x5, x9, x10, x265000, x265001, rfl, rfl, h⟩
  cases k9 with
  | zero => exact absurd h (by simp [impl_Table_freeOrder.l2])
  | succ k9 =>
  simp only [impl_Table_freeOrder.l2] at h
  pl_ h
  refine AWp.seq ?_
  refine AWp.seq ?_
  refine AWp.region ?_
  refine L.Y Y.mv ?_
  refine L.Y (Y.ln Try.underlying22) ?_
  refine L.Y (Y.fa (off := 0) Try.underlying28 Y3) ?_
  refine L.S (S.ld Try.underlying3) ?_
  refine L.Y Y.bin ?_
  refine AList.nil ?_
  refine W.cond (fun hb => ?_) (fun hb => ?_)
  ·
   have hb11 := hb
   sb_ hb
   rw_ hb11 hb h
   pl_ h
   refine AWp.skip ?_
   refine AWp.block ?_
   refine AWp.seq ?_
   refine W.kp [2, 5, 9, 10, 51] ?_
   refine AWp.region ?_
   refine L.Y Y.asg ?_
   refine AList.nil ?_
   refine AWp.seq ?_
   refine AWp.block ?_
   pl_ h
   refine AWp.loopI (fun kk e H => kk ≤ k9 ∧ ∃ (x5 : List Int) (x9 : List Int) (x10 : Int) (x11 : Int) (x265000 : Int) (x265001 : Int), e = [(2, .ptr 0 0), (5, .own 1 x5.length), (9, .own 2 x9.length), (10, .lit (.int .i64 x10)), (11, .lit (.int .i64 x11))] ∧ H = [.bx 28 [.lit (.int .i64 x265000), .lit (.int .i64 x265001), .row 1 l0_2.length false (ints .i64 l0_2)], .sl 3 1 x5.length true (ints .i64 x5), .sl 3 1 x9.length true (ints .i64 x9)] ∧ impl_Table_freeOrder.l3 kk x5 x9 x10 x11 x265000 x265001 l0_2 = some r) (k := k9)
    ⟨_, _, ⟨Nat.le_refl _, _, _, _, _, _, _, rfl, rfl, h⟩, IsPart.at [] [0, 1, 2] base0 (H.c (H.c (H.c .nil))) (E.c (E.c (E.c (E.c (E.c .nil)))))⟩ ?_
   clear h
   rintro k12 e H ⟨hk13, x5, x9, x10, x11, x265000, x265001, rfl, rfl, h⟩
   cases k12 with
   | zero => exact absurd h (by simp [impl_Table_freeOrder.l3])
   | succ k12 =>
   simp only [impl_Table_freeOrder.l3] at h
   pl_ h
   refine AWp.seq ?_
   refine AWp.seq ?_
   refine AWp.region ?_
   refine L.Y Y.mv ?_
   refine L.Y (Y.fa (off := 0) Try.underlying28 Y3) ?_
   refine L.S (S.ld Try.underlying3) ?_
   refine L.Y Y.bin ?_
   refine L.Y Y.mv ?_
   refine L.Gc (fun hb => ?_) (fun hb => ?_)
   ·
    have hb14 := hb
    sb_ hb
    rw_ hb14 hb h
    pl_ h
    refine L.Gy hb14 Y.mv ?_
    refine L.Gy hb14 Y.mv ?_
    refine L.Gy hb14 Y.bin ?_
    refine L.Gy hb14 Y.bin ?_
    refine L.Gy hb14 Y.bin ?_
    refine L.Gy hb14 Y.mv ?_
    refine L.Gc (fun hb => ?_) (fun hb => ?_)
    ·
     have hb15 := hb
     sb_ hb
     rw_ hb15 hb h
     pl_ h
     refine L.Gn hb15 ?_
     refine L.Gn hb15 ?_
     refine L.Gn hb15 ?_
     refine L.Gn hb15 ?_
     refine L.Gn hb15 ?_
     refine L.Gn hb15 ?_
     refine L.Gn hb15 ?_
     refine L.Gy hb14 (Y.pk (c := true) hb15) ?_
     refine L.Y (Y.pk (c := true) hb14) ?_
     refine AList.nil ?_
     refine W.cond (fun hb => ?_) (fun hb => ?_)
     rotate_left
     ·
      dd_ hb
     have hb16 := hb
     refine AWp.skip ?_
     refine AWp.block ?_
     refine W.kp [2, 5, 9, 10, 11, 71] ?_
     refine AWp.region ?_
     refine L.Y Y.mv ?_
     refine L.Y Y.bin ?_
     refine L.Y Y.asg ?_
     refine AList.nil ?_
     pl_ h
     exact ⟨k12, by omega, _, _, ⟨by omega, _, _, _, _, _, _, rfl, rfl, h⟩, IsPart.at [] [0, 1, 2] base0 (H.c (H.c (H.c .nil))) (E.c (E.c (E.c (E.c (E.c .nil)))))⟩
    ·
     have hb15 := hb
     sb_ hb
     rw_ hb15 hb h
     pl_ h
     refine L.Gy hb15 Y.mv ?_
     refine L.Gy hb15 Y.mv ?_
     refine L.Gy hb15 (Y.ixo Try.underlying22 Y3) ?_
     refine L.Gs hb15 (S.ld Try.underlying3) ?_
     refine L.Gy hb15 Y.mv ?_
     refine L.Gy hb15 Y.bin ?_
     refine L.Gy hb15 Y.bin ?_
     refine L.Gy hb14 (Y.pk (c := false) hb15) ?_
     refine L.Y (Y.pk (c := true) hb14) ?_
     refine AList.nil ?_
     refine W.cond (fun hb => ?_) (fun hb => ?_)
     ·
      have hb17 := hb
      sb_ hb
      rw_ hb17 hb h
      pl_ h
      refine AWp.skip ?_
      refine AWp.block ?_
      refine W.kp [2, 5, 9, 10, 11, 71] ?_
      refine AWp.region ?_
      refine L.Y Y.mv ?_
      refine L.Y Y.bin ?_
      refine L.Y Y.asg ?_
      refine AList.nil ?_
      pl_ h
      exact ⟨k12, by omega, _, _, ⟨by omega, _, _, _, _, _, _, rfl, rfl, h⟩, IsPart.at [] [0, 1, 2] base0 (H.c (H.c (H.c .nil))) (E.c (E.c (E.c (E.c (E.c .nil)))))⟩
     ·
      have hb17 := hb
      sb_ hb
      rw_ hb17 hb h
      pl_ h
      refine AWp.exit ?_
      refine AWp.seq ?_
      refine AWp.seq ?_
      refine W.kp [2, 5, 9, 10, 11, 71] ?_
      refine AWp.region ?_
      refine L.Y Y.mv ?_
      refine L.Y (Y.fa (off := 0) Try.underlying28 Y3) ?_
      refine L.S (S.ld Try.underlying3) ?_
      refine L.Y Y.bin ?_
      refine AList.nil ?_
      refine W.cond (fun hb => ?_) (fun hb => ?_)
      ·
       have hb18 := hb
       sb_ hb
       rw_ hb18 hb h
       pl_ h
       refine AWp.seq ?_
       refine AWp.region ?_
       refine L.Y Y.asg ?_
       refine AList.nil ?_
       pl_ h
       obtain rfl := Option.some.inj h
       refine AWp.ret ?_
       exact ⟨.inr rfl, [(4, _)], _, .inl ⟨rfl, rfl, rfl⟩, IsPart.at [] [] base0 .nil (E.c .nil)⟩
      ·
       have hb18 := hb
       sb_ hb
       rw_ hb18 hb h
       pl_ h
       refine AWp.skip ?_
       refine Dt.reg [] [3] (.y 0 (.y 1 (.y 4 (.y 5 (.y 6 (.y 7 (.one 2 (.last 3 (.y 8 (.y 9 .done)))))))))) HM ?_
       refine Dt.Y rfl wantN Y.mv ?_
       refine Dt.Y rfl wantN Y.mv ?_
       refine Dt.Y rfl wantN Y.mv ?_
       refine Dt.Y rfl wantN Y.mv ?_
       refine Dt.Y rfl wantN Y.bin ?_
       refine Dt.Y rfl wantN Y.bin ?_
       refine Dt.O (g' := false) rfl wantN ?_
       refine Ox.M (M.bs Try.underlying22 Y3) ?_
       refine Dt.L rfl wantN ?_
       refine Op.S (S.ap (nn' := true) Try.underlying22 Y3) ?_
       refine Du.Y rfl wantN Y.asg ?_
       refine Du.Y rfl wantN Y.asg ?_
       refine Du.nil ?_
       pl_ h
       exact ⟨k12, by omega, _, _, ⟨by omega, _, _, _, _, _, rfl, rfl, h⟩, IsPart.at [] [0, 1, 2] base0 (H.c (H.c (H.c .nil))) (E.c (E.c (E.c (E.c .nil))))⟩
   ·
    have hb14 := hb
    sb_ hb
    rw_ hb14 hb h
    pl_ h
    refine L.Gn hb14 ?_
    refine L.Gn hb14 ?_
    refine L.Gn hb14 ?_
    refine L.Gn hb14 ?_
    refine L.Gn hb14 ?_
    refine L.Gn hb14 ?_
    refine L.Nu ?_
    refine L.Nu ?_
    refine L.Nu ?_
    refine L.Nu ?_
    refine L.Nu ?_
    refine L.Nu ?_
    refine L.Nu ?_
    refine L.Gn hb14 ?_
    refine L.Y (Y.pk (c := false) hb14) ?_
    refine AList.nil ?_
    refine W.cond (fun hb => ?_) (fun hb => ?_)
    ·
     dd_ hb
    have hb19 := hb
    refine AWp.exit ?_
    refine AWp.seq ?_
    refine AWp.seq ?_
    refine W.kp [2, 5, 9, 10, 11, 71] ?_
    refine AWp.region ?_
    refine L.Y Y.mv ?_
    refine L.Y (Y.fa (off := 0) Try.underlying28 Y3) ?_
    refine L.S (S.ld Try.underlying3) ?_
    refine L.Y Y.bin ?_
    refine AList.nil ?_
    refine W.cond (fun hb => ?_) (fun hb => ?_)
    ·
     have hb20 := hb
     sb_ hb
     rw_ hb20 hb h
     pl_ h
     refine AWp.seq ?_
     refine AWp.region ?_
     refine L.Y Y.asg ?_
     refine AList.nil ?_
     pl_ h
     obtain rfl := Option.some.inj h
     refine AWp.ret ?_
     exact ⟨.inr rfl, [(4, _)], _, .inl ⟨rfl, rfl, rfl⟩, IsPart.at [] [] base0 .nil (E.c .nil)⟩
    ·
     have hb20 := hb
     sb_ hb
     rw_ hb20 hb h
     pl_ h
     refine AWp.skip ?_
     refine Dt.reg [] [3] (.y 0 (.y 1 (.y 4 (.y 5 (.y 6 (.y 7 (.one 2 (.last 3 (.y 8 (.y 9 .done)))))))))) HM ?_
     refine Dt.Y rfl wantN Y.mv ?_
     refine Dt.Y rfl wantN Y.mv ?_
     refine Dt.Y rfl wantN Y.mv ?_
     refine Dt.Y rfl wantN Y.mv ?_
     refine Dt.Y rfl wantN Y.bin ?_
     refine Dt.Y rfl wantN Y.bin ?_
     refine Dt.O (g' := false) rfl wantN ?_
     refine Ox.M (M.bs Try.underlying22 Y3) ?_
     refine Dt.L rfl wantN ?_
     refine Op.S (S.ap (nn' := true) Try.underlying22 Y3) ?_
     refine Du.Y rfl wantN Y.asg ?_
     refine Du.Y rfl wantN Y.asg ?_
     refine Du.nil ?_
     pl_ h
     exact ⟨k12, by omega, _, _, ⟨by omega, _, _, _, _, _, rfl, rfl, h⟩, IsPart.at [] [0, 1, 2] base0 (H.c (H.c (H.c .nil))) (E.c (E.c (E.c (E.c .nil))))⟩
  ·
   have hb11 := hb
   sb_ hb
   rw_ hb11 hb h
   pl_ h
   refine AWp.exit ?_
   refine AWp.seq ?_
   refine W.kp [2, 5, 9, 10, 51] ?_
   refine AWp.region ?_
   refine L.Y Y.mv ?_
   refine L.Y Y.asg ?_
   refine AList.nil ?_
   pl_ h
   obtain rfl := Option.some.inj h
   refine AWp.ret ?_
   exact ⟨.inr rfl, [(4, _)], _, .inr ⟨by first | assumption | simp, rfl, rfl⟩, IsPart.at [] [2] base0 (H.c .nil) (E.c .nil)⟩

/-! ### impl_FreeOrder: function 23 -/
def impl_FreeOrder.f (k : Nat) (a0_0 : Int) (a0_1 : Int) (l0_2 : List Int) (l1 : List Int) : Option (List Int × Bool) := (impl_IsTable.f k a0_0 a0_1 l0_2).bind fun t283 => (if t283 = true then ((impl_Table_areCells.f k a0_0 a0_1 l0_2 l1).bind fun t284 => (if t284 = true then ((impl_Table_freeOrder.f k a0_0 a0_1 l0_2 l1).bind fun t285 => (if t285 = [] then (some (t285, false)) else (some (t285, true)))) else (some (([] : List Int), false)))) else (some (([] : List Int), false)))
theorem impl_FreeOrder.mono : ∀ a0 a1 a2 a3 k, LeO (impl_FreeOrder.f k a0 a1 a2 a3) (impl_FreeOrder.f (k + 1) a0 a1 a2 a3) := by
 intro a0 a1 a2 a3 k
 unfold impl_FreeOrder.f
 repeat' first
   | (with_reducible exact impl_IsTable.mono _ _ _ _)
   | (with_reducible exact impl_Table_areCells.mono _ _ _ _ _)
   | (with_reducible exact impl_Table_freeOrder.mono _ _ _ _ _)
   | (with_reducible exact LeO.refl _)
   | (with_reducible exact LeO.none _)
   | (with_reducible refine LeO.ite ?_ ?_)
   | (with_reducible refine LeO.bind ?_ (fun _ => ?_))
   | exact impl_IsTable.mono _ _ _ _
   | exact impl_Table_areCells.mono _ _ _ _ _
   | exact impl_Table_freeOrder.mono _ _ _ _ _
   | exact LeO.none _
   | refine LeO.ite ?_ ?_
   | refine LeO.bind ?_ (fun _ => ?_)
set_option maxRecDepth 100000 in
set_option maxHeartbeats 20000000 in
theorem impl_FreeOrder.ac (k : Nat) (a0_0 : Int) (a0_1 : Int) (l0_2 : List Int) (l1 : List Int) (r1 : List Int) (r2 : Bool) (h : impl_FreeOrder.f k a0_0 a0_1 l0_2 l1 = some (r1, r2)) :
  ACalls Try.prog 23 [.agg [.lit (.int .i64 a0_0), .lit (.int .i64 a0_1), .row 1 l0_2.length false (ints .i64 l0_2)], .row 1 l1.length false (ints .i64 l1)] [] (fun v H' => v = .tup [.own 0 r1.length, .lit (.bool r2)] ∧ H' = [.sl 3 1 r1.length false (ints .i64 r1)]) := by
 refine ACalls.ofP [4, 5] Try.func23 rfl (by exact Nat.le_of_ble_eq_true rfl) rfl (by decide) ?_
 simp only [Try.ntmps23, env0, impl_FreeOrder.f] at h ⊢
 pl_ h
 refine AWp.seq ?_
 refine AWp.region ?_
 refine L.M M.bx ?_
 refine L.Y Y.asg ?_
 refine L.Y Y.asg ?_
 refine AList.nil ?_
 refine AWp.seq ?_
 refine AWp.seq ?_
 refine AWp.region ?_
 refine L.S (S.ldN Try.underlying28 Y28) ?_
 pl_ h
 obtain ⟨t283, hc1, h⟩ := Option.bind_eq_some_iff.1 h
 pl_ h
 refine L.C (C.callE (l := true) [] Try.func52 (impl_IsTable.ac _ _ _ _ _ hc1) .nil ?_)
 refine L.Y Y.nt ?_
 refine L.Y Y.mv ?_
 refine L.Gc (fun hb => ?_) (fun hb => ?_)
 ·
  have hb2 := hb
  sb_ hb
  rw_ hb2 hb h
  pl_ h
  refine L.Gn hb2 ?_
  refine L.Gn hb2 ?_
  refine L.Gn hb2 ?_
  refine L.Gn hb2 ?_
  refine L.Y (Y.pk (c := true) hb2) ?_
  refine AList.nil ?_
  refine W.cond (fun hb => ?_) (fun hb => ?_)
  rotate_left
  ·
   dd_ hb
  have hb3 := hb
  refine AWp.seq ?_
  refine W.kp [0, 1, 2, 4, 5, 15] ?_
  refine AWp.region ?_
  refine L.Y Y.asg ?_
  refine L.Y Y.asg ?_
  refine AList.nil ?_
  pl_ h
  simp only [Option.some.injEq, Prod.mk.injEq] at h
  obtain ⟨rfl, rfl⟩ := h
  refine AWp.ret ?_
  exact ⟨.inr rfl, [(4, _), (5, _)], _, ⟨rfl, rfl⟩, IsPart.at [(3, 1)] [1] base0 (H.c .nil) (E.c (E.c .nil))⟩
 ·
  have hb2 := hb
  sb_ hb
  rw_ hb2 hb h
  pl_ h
  refine L.Gs hb2 (S.ldN Try.underlying28 Y28) ?_
  refine L.Gy hb2 Y.mv ?_
  pl_ h
  obtain ⟨t284, hc4, h⟩ := Option.bind_eq_some_iff.1 h
  pl_ h
  refine L.GC hb2 (C.callE (l := true) [] Try.func53 (impl_Table_areCells.ac _ _ _ _ _ _ hc4) .nil ?_)
  refine L.Gy hb2 Y.nt ?_
  refine L.Y (Y.pk (c := false) hb2) ?_
  refine AList.nil ?_
  refine W.cond (fun hb => ?_) (fun hb => ?_)
  ·
   have hb5 := hb
   sb_ hb
   rw_ hb5 hb h
   pl_ h
   refine AWp.seq ?_
   refine W.kp [0, 1, 2, 4, 5, 15] ?_
   refine AWp.region ?_
   refine L.Y Y.asg ?_
   refine L.Y Y.asg ?_
   refine AList.nil ?_
   pl_ h
   simp only [Option.some.injEq, Prod.mk.injEq] at h
   obtain ⟨rfl, rfl⟩ := h
   refine AWp.ret ?_
   exact ⟨.inr rfl, [(4, _), (5, _)], _, ⟨rfl, rfl⟩, IsPart.at [(3, 1)] [1] base0 (H.c .nil) (E.c (E.c .nil))⟩
  ·
   have hb5 := hb
   sb_ hb
   rw_ hb5 hb h
   pl_ h
   refine AWp.skip ?_
   refine AWp.seq ?_
   refine W.kp [0, 1, 2, 4, 5, 15] ?_
   refine AWp.region ?_
   refine L.S (S.ldN Try.underlying28 Y28) ?_
   refine L.Y Y.mv ?_
   pl_ h
   obtain ⟨t285, hc6, h⟩ := Option.bind_eq_some_iff.1 h
   pl_ h
   rcases Classical.em (t285 = []) with hq | hq
   ·
    have hq0 : t285.length = 0 := by rw [hq]; rfl
    have hq1 : ints .i64 t285 = [] := by rw [hq]; rfl
    refine L.C (C.callE (l := true) [] Try.func54 ((impl_Table_freeOrder.acq _ _ _ _ _ _ hc6).conseq (fun _ _ q => q.elim (fun z => z.2) (fun z => absurd hq z.1))) .nil ?_)
    refine L.Y Y.asg ?_
    refine AList.nil ?_
    refine AWp.seq ?_
    refine AWp.region ?_
    refine L.Y Y.mv ?_
    refine L.Y Y.mv ?_
    refine L.Y (Y.nn Try.underlying22) ?_
    refine L.Y Y.asg ?_
    refine L.Y Y.asg ?_
    refine AList.nil ?_
    rw [if_pos hq] at h
    pl_ h
    simp only [Option.some.injEq, Prod.mk.injEq] at h
    obtain ⟨rfl, rfl⟩ := h
    refine AWp.ret ?_
    exact ⟨.inr rfl, [(4, _), (5, _)], _, ⟨rfl, rfl⟩, IsPart.at [(3, 1)] [1] base0 (H.c .nil) (E.c (E.c .nil))⟩
   ·
    skip
    refine L.C (C.callE (l := true) [] Try.func54 ((impl_Table_freeOrder.acq _ _ _ _ _ _ hc6).conseq (fun _ _ q => q.elim (fun z => absurd z.1 hq) (fun z => z.2))) .nil ?_)
    refine L.Y Y.asg ?_
    refine AList.nil ?_
    refine AWp.seq ?_
    refine AWp.region ?_
    refine L.Y Y.mv ?_
    refine L.Y Y.mv ?_
    refine L.Y (Y.nn Try.underlying22) ?_
    refine L.Y Y.asg ?_
    refine L.Y Y.asg ?_
    refine AList.nil ?_
    rw [if_neg hq] at h
    pl_ h
    simp only [Option.some.injEq, Prod.mk.injEq] at h
    obtain ⟨rfl, rfl⟩ := h
    refine AWp.ret ?_
    exact ⟨.inr rfl, [(4, _), (5, _)], _, ⟨rfl, rfl⟩, IsPart.at [] [1] base0 (H.c .nil) (E.c (E.c .nil))⟩

/-! ### impl_Table_cover: function 50 -/
def impl_Table_cover.l0 : Nat → Int → List Int → Int → Int → Int → Int → List Int → Int → Int → List Int → Option (Int × Int × List Int)
 | 0, _, _, _, _, _, _, _, _, _, _ => none
 | k + 1, x6, x17, x18, x19, x289000, x289001, x289002, x294000, x294001, x294002 => if x19 < x18 then (if 0 ≤ x19 then (if x19 < (x17.length : Int) then (if 0 ≤ (rd x17 x19) then (if (rd x17 x19) < (x289002.length : Int) then (if (rd x17 x19) < (x294002.length : Int) then (impl_Table_cover.l0 k (Go.bits .or .i64 x6 (rd x289002 (rd x17 x19))) x17 x18 (wrap64 (x19 + 1)) x289000 x289001 x289002 x294000 x294001 (x294002.set ((rd x17 x19) : Int).toNat (Go.bits .or .i64 x6 (rd x289002 (rd x17 x19))))) else (none)) else (none)) else (none)) else (none)) else (none)) else (some (x294000, x294001, x294002))
def impl_Table_cover.f (k : Nat) (a0_0 : Int) (a0_1 : Int) (l0_2 : List Int) (l1 : List Int) : Option (Int × Int × List Int) := if 0 ≤ a0_0 then (if (a0_0 : Int).toNat ≤ 35184372088832 then (impl_Table_cover.l0 k 0 l1 (l1.length : Int) 0 a0_0 a0_1 l0_2 a0_0 a0_1 (List.replicate (a0_0 : Int).toNat 0)) else (none)) else (none)
theorem impl_Table_cover.mono_l : ∀ k, (∀ y0 y1 y2 y3 y4 y5 y6 y7 y8 y9, LeO (impl_Table_cover.l0 k y0 y1 y2 y3 y4 y5 y6 y7 y8 y9) (impl_Table_cover.l0 (k + 1) y0 y1 y2 y3 y4 y5 y6 y7 y8 y9))
 | 0 => fun _ _ _ _ _ _ _ _ _ _ r h => by simp [impl_Table_cover.l0] at h
 | k + 1 => by
  have ih0 := impl_Table_cover.mono_l k
  ·
   intro y0 y1 y2 y3 y4 y5 y6 y7 y8 y9
   unfold impl_Table_cover.l0
   repeat' first
   | (with_reducible exact ih0 _ _ _ _ _ _ _ _ _ _)
   | (with_reducible exact LeO.refl _)
   | (with_reducible exact LeO.none _)
   | (with_reducible refine LeO.ite ?_ ?_)
   | (with_reducible refine LeO.bind ?_ (fun _ => ?_))
   | exact ih0 _ _ _ _ _ _ _ _ _ _
   | exact LeO.none _
   | refine LeO.ite ?_ ?_
   | refine LeO.bind ?_ (fun _ => ?_)
theorem impl_Table_cover.mono : ∀ a0 a1 a2 a3 k, LeO (impl_Table_cover.f k a0 a1 a2 a3) (impl_Table_cover.f (k + 1) a0 a1 a2 a3) := by
 intro a0 a1 a2 a3 k
 have ih0 := impl_Table_cover.mono_l k
 unfold impl_Table_cover.f
 repeat' first
   | (with_reducible exact ih0 _ _ _ _ _ _ _ _ _ _)
   | (with_reducible exact LeO.refl _)
   | (with_reducible exact LeO.none _)
   | (with_reducible refine LeO.ite ?_ ?_)
   | (with_reducible refine LeO.bind ?_ (fun _ => ?_))
   | exact ih0 _ _ _ _ _ _ _ _ _ _
   | exact LeO.none _
   | refine LeO.ite ?_ ?_
   | refine LeO.bind ?_ (fun _ => ?_)
set_option maxRecDepth 100000 in
set_option maxHeartbeats 20000000 in
theorem impl_Table_cover.ac (k : Nat) (a0_0 : Int) (a0_1 : Int) (l0_2 : List Int) (l1 : List Int) (r1 : Int) (r2 : Int) (r3 : List Int) (h : impl_Table_cover.f k a0_0 a0_1 l0_2 l1 = some (r1, r2, r3)) :
  ACalls Try.prog 50 [.agg [.lit (.int .i64 a0_0), .lit (.int .i64 a0_1), .row 1 l0_2.length false (ints .i64 l0_2)], .row 1 l1.length false (ints .i64 l1)] [] (fun v H' => v = .agg [.lit (.int .i64 r1), .lit (.int .i64 r2), .own 0 r3.length] ∧ H' = [.sl 3 1 r3.length false (ints .i64 r3)]) := by
 refine ACalls.ofV Try.func50 rfl (by exact Nat.le_of_ble_eq_true rfl) ?_
 simp only [Try.ntmps50, env0, impl_Table_cover.f] at h ⊢
 pl_ h
 refine AWp.seq ?_
 refine AWp.region ?_
 refine L.M M.bx ?_
 refine L.M (M.al Y28) ?_
 refine AList.nil ?_
 refine AWp.seq ?_
 apply AWp.joinX
 ·
  refine Dt.reg [] [9] (.y 0 (.t 1 (.y 2 (.t 3 (.y 4 (.t 5 (.two 6 (.y 7 (.one 8 (.last 9 (.y 10 .done)))) 8 (.one 6 (.y 7 (.last 9 (.y 10 .done))))))))))) HM ?_
  refine Dt.Y rfl wantN (Y.fa (off := 0) Try.underlying28 Y3) ?_
  refine Dt.T rfl wantN (D.ld Try.underlying3) ?_
  refine Dt.Y rfl wantN (Y.fa (off := 1) Try.underlying28 Y3) ?_
  refine Dt.T rfl wantN (D.ld Try.underlying3) ?_
  refine Dt.Y rfl wantN (Y.fa (off := 0) Try.underlying28 Y3) ?_
  refine Dt.T rfl wantN (D.ld Try.underlying3) ?_
  refine Dt.B (g1 := false) (g2 := false) rfl rfl wantN wantN ?_ ?_
  ·
   skip
   refine Ox.M (M.mk Try.underlying22 Y3) ?_
   refine Dt.Y rfl wantN (Y.bd Try.underlying28 Y28 P28) ?_
   refine Dt.O (g' := false) rfl wantN ?_
   refine Ox.M (M.al Y28) ?_
   refine Dt.L rfl wantN ?_
   refine Op.S (S.stb Y28) ?_
   refine Du.Y rfl wantN Y.asg ?_
   refine Du.nil ?_
   exact ⟨rfl, .inl ⟨rfl, rfl⟩⟩
  ·
   skip
   refine Ox.M (M.al Y28) ?_
   refine Dt.O (g' := false) rfl wantN ?_
   refine Ox.M (M.mk Try.underlying22 Y3) ?_
   refine Dt.Y rfl wantN (Y.bd Try.underlying28 Y28 P28) ?_
   refine Dt.L rfl wantN ?_
   refine Op.S (S.stb Y28) ?_
   refine Du.Y rfl wantN Y.asg ?_
   refine Du.nil ?_
   exact ⟨rfl, .inr (IsPart.at [] [0, 1, 3, 2] base0 (H.c (H.c (H.c (H.c .nil)))) (by repeat' first | exact .nil | refine E.c ?_))⟩
 ·
  skip
  refine AWp.seq ?_
  refine AWp.seq ?_
  refine W.kp [0, 1, 2, 4, 5, 6] ?_
  refine AWp.region ?_
  refine L.Y Y.mv ?_
  refine L.Y (Y.ln Try.underlying22) ?_
  refine L.Y Y.mv ?_
  refine AList.nil ?_
  refine AWp.block ?_
  pl_ h
  refine AWp.loopI (fun kk e H => kk ≤ k ∧ ∃ (x6 : Int) (x18 : Int) (x19 : Int) (x289000 : Int) (x289001 : Int) (x290000 : Int) (x290001 : Int) (x294000 : Int) (x294001 : Int) (x294002 : List Int), e = [(2, .ptr 0 0), (4, .ptr 1 0), (5, .ptr 2 0), (6, .lit (.int .i64 x6)), (17, .row 1 l1.length false (ints .i64 l1)), (18, .lit (.int .i64 x18)), (19, .lit (.int .i64 x19))] ∧ H = [.bx 28 [.lit (.int .i64 x289000), .lit (.int .i64 x289001), .row 1 l0_2.length false (ints .i64 l0_2)], .bx 28 [.lit (.int .i64 x290000), .lit (.int .i64 x290001), .lit (.slice none 0 0)], .bx 28 [.lit (.int .i64 x294000), .lit (.int .i64 x294001), .own 3 x294002.length], .sl 3 1 x294002.length true (ints .i64 x294002)] ∧ impl_Table_cover.l0 kk x6 l1 x18 x19 x289000 x289001 l0_2 x294000 x294001 x294002 = some (r1, r2, r3)) (k := k)
   ⟨_, _, ⟨Nat.le_refl _, _, _, _, _, _, _, _, _, _, _, rfl, rfl, h⟩, IsPart.at [] [0, 1, 3, 2] base0 (H.c (H.c (H.c (H.c .nil)))) (E.c (E.c (E.c (E.c (E.c (E.c (E.c .nil)))))))⟩ ?_
  clear h
  rintro k1 e H ⟨hk2, x6, x18, x19, x289000, x289001, x290000, x290001, x294000, x294001, x294002, rfl, rfl, h⟩
  cases k1 with
  | zero => exact absurd h (by simp [impl_Table_cover.l0])
  | succ k1 =>
  simp only [impl_Table_cover.l0] at h
  pl_ h
  refine AWp.seq ?_
  refine AWp.region ?_
  refine L.Y Y.bin ?_
  refine AList.nil ?_
  refine AWp.seq ?_
  refine W.cond (fun hb => ?_) (fun hb => ?_)
  ·
   have hb3 := hb
   sb_ hb
   rw_ hb3 hb h
   pl_ h
   refine AWp.skip ?_
   refine AWp.seq ?_
   refine AWp.block ?_
   refine AWp.seq ?_
   refine AWp.region ?_
   refine L.Y (Y.ixr Try.underlying22 Y3) ?_
   refine L.S (S.ld Try.underlying3) ?_
   refine L.Y Y.asg ?_
   refine AList.nil ?_
   refine AWp.seq ?_
   refine AWp.region ?_
   refine L.Y Y.mv ?_
   refine L.Y (Y.fa (off := 2) Try.underlying28 Y22) ?_
   refine L.S (S.ld Try.underlying22) ?_
   refine L.Y Y.mv ?_
   refine L.Y (Y.ixr Try.underlying22 Y3) ?_
   refine L.S (S.ld Try.underlying3) ?_
   refine L.Y Y.bin ?_
   refine L.Y Y.asg ?_
   refine AList.nil ?_
   refine W.kp [2, 4, 5, 6, 8, 17, 18, 19, 20] ?_
   refine AWp.region ?_
   refine L.Y (Y.fa (off := 2) Try.underlying28 Y22) ?_
   refine L.S (S.ld Try.underlying22) ?_
   refine L.Y Y.mv ?_
   refine L.Y Y.mv ?_
   refine L.Y (Y.ixo Try.underlying22 Y3) ?_
   refine L.S (S.sts Y3) ?_
   refine AList.nil ?_
   refine W.kp [2, 4, 5, 6, 8, 17, 18, 19, 20] ?_
   refine AWp.region ?_
   refine L.Y Y.bin ?_
   refine L.Y Y.mv ?_
   refine AList.nil ?_
   pl_ h
   exact ⟨k1, by omega, _, _, ⟨by omega, _, _, _, _, _, _, _, _, _, _, rfl, rfl, h⟩, IsPart.at [] [0, 1, 2, 3] base0 (H.c (H.c (H.c (H.c .nil)))) (E.c (E.c (E.c (E.c (E.c (E.c (E.c .nil)))))))⟩
  ·
   have hb3 := hb
   sb_ hb
   rw_ hb3 hb h
   pl_ h
   refine AWp.exit ?_
   refine AWp.seq ?_
   refine AWp.region ?_
   refine L.S (S.ldN Try.underlying28 Y28) ?_
   refine L.S (S.stb Y28) ?_
   refine AList.nil ?_
   pl_ h
   simp only [Option.some.injEq, Prod.mk.injEq] at h
   obtain ⟨rfl, rfl, rfl⟩ := h
   refine AWp.ret ?_
   exact ⟨.inr rfl, _, _, _, Res.cl Try.underlying28 Y28, ⟨rfl, rfl⟩, PartV.at [] [3] base0 (H.c .nil)⟩

end Go.Proofs.Ytpippjgphndjmaa.PFnCovers
