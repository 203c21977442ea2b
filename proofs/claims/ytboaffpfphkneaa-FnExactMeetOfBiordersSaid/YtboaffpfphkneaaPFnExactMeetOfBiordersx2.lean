-- Written by a program of this session's (wip/myprint2): the functions by the kit's print, the walks by awgen.py. Lean checks it.
import Derived.Test.YtboaffpfphkneaaPFnExactMeetOfBiordersx0
import Derived.Test.YtboaffpfphkneaaPFnExactMeetOfBiordersx1
namespace Go.Proofs.Ytboaffpfphkneaa.PFnExactMeetOfBiorders
open Go.RowKit Go.Proofs.YtboaffpfphkneaaW.PrintWords Go.Proofs.YtboaffpfphkneaaW.PrintLast Go.Proofs.YtboaffpfphkneaaW.PrintMore Go.Proofs.YtboaffpfphkneaaM Go.Proofs.YtboaffpfphkneaaA
attribute [local go_sem] max2_int min2_int max_two min_two max_three min_three max_four min_four   -- for this text's walks alone
set_option linter.unusedVariables false
set_option linter.unusedSimpArgs false

/-! ### spec_fePart: function 18 -/
def spec_fePart.l0 : Nat → List Int → Int → List Int → List Int → Int → Int → Option (List Int)
 | 0, _, _, _, _, _, _ => none
 | k + 1, x0, x2, x7, x10, x11, x12 => if x12 < x11 then (if 0 ≤ x12 then (if x12 < (x10.length : Int) then (if (rd x10 x12) = x2 then (if x12 < (x0.length : Int) then (if x7.length < 17592186044416 then (spec_fePart.l0 k x0 x2 (x7 ++ [rd x0 x12]) x10 x11 (wrap64 (x12 + 1))) else (none)) else (none)) else (spec_fePart.l0 k x0 x2 x7 x10 x11 (wrap64 (x12 + 1)))) else (none)) else (none)) else (some x7)
def spec_fePart.f (k : Nat) (l0 : List Int) (l1 : List Int) (a2 : Int) : Option (List Int) := spec_fePart.l0 k l0 a2 ([] : List Int) l1 (l1.length : Int) 0
set_option maxRecDepth 100000 in
set_option maxHeartbeats 20000000 in
theorem spec_fePart.ac (k : Nat) (l0 : List Int) (l1 : List Int) (a2 : Int) (r : List Int) (h : spec_fePart.f k l0 l1 a2 = some r) :
  ACalls Try.prog 18 [.row 1 l0.length false (ints .i64 l0), .row 1 l1.length false (ints .i64 l1), .lit (.int .i64 a2)] [] (fun v H' => v = .own 0 r.length ∧ H' = [.sl 3 1 r.length false (ints .i64 r)]) := by
 refine ACalls.ofP [6] Try.func18 rfl (by exact Nat.le_of_ble_eq_true rfl) rfl (by decide) ?_
 simp only [Try.ntmps18, env0, spec_fePart.f] at h ⊢
 refine AWp.seq ?_
 refine AWp.region ?_
 refine L.Y Y.asg ?_
 refine AList.nil ?_
 refine AWp.seq ?_
 refine AWp.region ?_
 refine L.Y Y.asg ?_
 refine AList.nil ?_
 refine AWp.seq ?_
 refine AWp.seq ?_
 refine AWp.region ?_
 refine L.Y Y.mv ?_
 refine L.Y (Y.ln Try.underlying22) ?_
 refine L.Y Y.mv ?_
 refine AList.nil ?_
 refine AWp.block ?_
 refine AWp.loopI (fun kk e H => kk ≤ k ∧ ∃ (x2 : Int) (x7 : List Int) (x11 : Int) (x12 : Int), e = [(0, .row 1 l0.length false (ints .i64 l0)), (2, .lit (.int .i64 x2)), (6, .lit (.slice none 0 0)), (7, .own 0 x7.length), (10, .row 1 l1.length false (ints .i64 l1)), (11, .lit (.int .i64 x11)), (12, .lit (.int .i64 x12))] ∧ H = [.sl 3 1 x7.length false (ints .i64 x7)] ∧ spec_fePart.l0 kk l0 x2 x7 l1 x11 x12 = some r) (k := k)
  ⟨_, _, ⟨Nat.le_refl _, _, _, _, _, rfl, rfl, h⟩, IsPart.at [(3, 1)] [0] base0 (H.c .nil) (E.c (E.c (E.c (E.c (E.c (E.c (E.c .nil)))))))⟩ ?_
 clear h
 rintro k1 e H ⟨hk2, x2, x7, x11, x12, rfl, rfl, h⟩
 cases k1 with
 | zero => exact absurd h (by simp [spec_fePart.l0])
 | succ k1 =>
 simp only [spec_fePart.l0] at h
 refine AWp.seq ?_
 refine AWp.region ?_
 refine L.Y Y.bin ?_
 refine AList.nil ?_
 refine AWp.seq ?_
 refine W.cond (fun hb => ?_) (fun hb => ?_)
 ·
  have hb3 := hb
  try simp only [hS, hE, ne_eq] at hb
  first | rw [if_pos hb3] at h | rw [if_neg (Bool.eq_false_iff.1 hb3)] at h | rw [if_pos hb] at h | rw [if_neg hb] at h | (simp only [hb, hT, reduceIte] at h) | skip
  repeat (first | (rw [iN] at h; obtain ⟨_, h⟩ := h) | (rw [iP] at h; obtain ⟨_, h⟩ := h) | (simp only [bS] at h))
  refine AWp.skip ?_
  refine AWp.seq ?_
  refine AWp.block ?_
  refine AWp.seq ?_
  refine AWp.region ?_
  refine L.Y Y.mv ?_
  refine L.Y (Y.ixr Try.underlying22 Y3) ?_
  refine L.S (S.ld Try.underlying3) ?_
  refine L.Y Y.asg ?_
  refine L.Y Y.asg ?_
  refine AList.nil ?_
  refine AWp.seq ?_
  refine AWp.region ?_
  refine L.Y Y.mv ?_
  refine L.Y Y.mv ?_
  refine L.Y Y.bin ?_
  refine AList.nil ?_
  refine W.cond (fun hb => ?_) (fun hb => ?_)
  ·
   have hb4 := hb
   try simp only [hS, hE, ne_eq] at hb
   first | rw [if_pos hb4] at h | rw [if_neg (Bool.eq_false_iff.1 hb4)] at h | rw [if_pos hb] at h | rw [if_neg hb] at h | (simp only [hb, hT, reduceIte] at h) | skip
   repeat (first | (rw [iN] at h; obtain ⟨_, h⟩ := h) | (rw [iP] at h; obtain ⟨_, h⟩ := h) | (simp only [bS] at h))
   refine W.kp [0, 2, 6, 7, 8, 9, 10, 11, 12, 13, 19] ?_
   refine AWp.region ?_
   refine L.Y Y.mv ?_
   refine L.Y Y.mv ?_
   refine L.Y Y.mv ?_
   refine L.Y (Y.ixr Try.underlying22 Y3) ?_
   refine L.S (S.ld Try.underlying3) ?_
   refine L.M (M.bs Try.underlying22 Y3) ?_
   refine L.S (S.ap (nn' := false) Try.underlying22 Y3) ?_
   refine L.Y Y.asg ?_
   refine AList.nil ?_
   refine W.kp [0, 2, 6, 7, 8, 9, 10, 11, 12, 13, 19] ?_
   refine AWp.region ?_
   refine L.Y Y.bin ?_
   refine L.Y Y.mv ?_
   refine AList.nil ?_
   exact ⟨k1, by omega, _, _, ⟨by omega, _, _, _, _, rfl, rfl, h⟩, IsPart.at [] [0] base0 (H.c .nil) (E.c (E.c (E.c (E.c (E.c (E.c (E.c .nil)))))))⟩
  ·
   have hb4 := hb
   try simp only [hS, hE, ne_eq] at hb
   first | rw [if_pos hb4] at h | rw [if_neg (Bool.eq_false_iff.1 hb4)] at h | rw [if_pos hb] at h | rw [if_neg hb] at h | (simp only [hb, hT, reduceIte] at h) | skip
   refine AWp.skip ?_
   refine W.kp [0, 2, 6, 7, 8, 9, 10, 11, 12, 13, 19] ?_
   refine AWp.region ?_
   refine L.Y Y.bin ?_
   refine L.Y Y.mv ?_
   refine AList.nil ?_
   exact ⟨k1, by omega, _, _, ⟨by omega, _, _, _, _, rfl, rfl, h⟩, IsPart.at [] [0] base0 (H.c .nil) (E.c (E.c (E.c (E.c (E.c (E.c (E.c .nil)))))))⟩
 ·
  have hb3 := hb
  try simp only [hS, hE, ne_eq] at hb
  first | rw [if_pos hb3] at h | rw [if_neg (Bool.eq_false_iff.1 hb3)] at h | rw [if_pos hb] at h | rw [if_neg hb] at h | (simp only [hb, hT, reduceIte] at h) | skip
  refine AWp.exit ?_
  refine AWp.seq ?_
  refine AWp.region ?_
  refine L.Y Y.mv ?_
  refine L.Y Y.asg ?_
  refine AList.nil ?_
  obtain rfl := Option.some.inj h
  refine AWp.ret ?_
  exact ⟨.inr rfl, [(6, _)], _, ⟨rfl, rfl⟩, IsPart.at [] [0] base0 (H.c .nil) (E.c .nil)⟩

/-! ### spec_l1Own: function 32 -/
def spec_l1Own.f (l0 : List Int) : Option (List Int) := (some (([] : List Int) : List Int)).bind fun y124 => (if y124.length + l0.length < 17592186044416 then (some (y124 ++ l0)) else (none))
set_option maxRecDepth 100000 in
set_option maxHeartbeats 20000000 in
theorem spec_l1Own.ac (l0 : List Int) (r : List Int) (h : spec_l1Own.f l0 = some r) :
  ACalls Try.prog 32 [.row 1 l0.length false (ints .i64 l0)] [] (fun v H' => v = .own 0 r.length ∧ H' = [.sl 3 1 r.length false (ints .i64 r)]) := by
 refine ACalls.ofP [2] Try.func32 rfl (by exact Nat.le_of_ble_eq_true rfl) rfl (by decide) ?_
 simp only [Try.ntmps32, env0, spec_l1Own.f] at h ⊢
 repeat (first | (rw [iN] at h; obtain ⟨_, h⟩ := h) | (rw [iP] at h; obtain ⟨_, h⟩ := h) | (simp only [bS] at h))
 refine AWp.seq ?_
 refine AWp.region ?_
 refine L.Y Y.asg ?_
 refine AList.nil ?_
 refine AWp.seq ?_
 refine AWp.region ?_
 refine L.M (M.bs Try.underlying22 Y3) ?_
 refine L.Y Y.mv ?_
 refine L.S (S.ap (nn' := true) Try.underlying22 Y3) ?_
 refine L.Y Y.asg ?_
 refine AList.nil ?_
 obtain rfl := Option.some.inj h
 refine AWp.ret ?_
 exact ⟨.inr rfl, [(2, _)], _, ⟨rfl, rfl⟩, IsPart.at [] [0] base0 (H.c .nil) (E.c .nil)⟩

/-! ### spec_feSplit: function 16 -/
mutual
def spec_feSplit.l0 : Nat → List Int → List Int → Int → Int → Int → Int → List Int → Option (List Int × Bool)
 | 0, _, _, _, _, _, _, _ => none
 | k + 1, x1, x2, x3, x10, x131000, x131001, x131002 => if x10 < x3 then ((spec_fePart.f k x1 x2 x10).bind fun t131 => ((spec_feOrder.f k x131000 x131001 x131002 t131).bind fun bt134 => (if bt134.2 = true then (spec_feSplit.l0 k x1 x2 x3 (wrap64 (x10 + 1)) x131000 x131001 x131002) else (some (([] : List Int), false))))) else (if (x2.length : Int) = (x1.length : Int) then (some (x2, true)) else (spec_feSplit.l1 k x1 x2 x3 0 x131000 x131001 x131002))
def spec_feSplit.l1 : Nat → List Int → List Int → Int → Int → Int → Int → List Int → Option (List Int × Bool)
 | 0, _, _, _, _, _, _, _ => none
 | k + 1, x1, x2, x3, x13, x131000, x131001, x131002 => if x13 < x3 then ((spec_l1Own.f x2).bind fun t138 => (if t138.length < 17592186044416 then ((spec_feSplit.f k x131000 x131001 x131002 x1 (t138 ++ [x13]) x3).bind fun bt144 => (if bt144.2 = true then (some (bt144.1, true)) else (spec_feSplit.l1 k x1 x2 x3 (wrap64 (x13 + 1)) x131000 x131001 x131002))) else (none))) else (some (([] : List Int), false))
def spec_feSplit.f : Nat → Int → Int → List Int → List Int → List Int → Int → Option (List Int × Bool)
 | 0, _, _, _, _, _, _ => none
 | k + 1, a0_0, a0_1, l0_2, l1, l2, a3 => spec_feSplit.l0 k l1 l2 a3 0 a0_0 a0_1 l0_2
end
set_option maxRecDepth 100000 in
set_option maxHeartbeats 20000000 in
theorem spec_feSplit.ac : ∀ (k : Nat) (a0_0 : Int) (a0_1 : Int) (l0_2 : List Int) (l1 : List Int) (l2 : List Int) (a3 : Int) (r1 : List Int) (r2 : Bool) (_ : spec_feSplit.f k a0_0 a0_1 l0_2 l1 l2 a3 = some (r1, r2)),
  ACalls Try.prog 16 [.agg [.lit (.int .i64 a0_0), .lit (.int .i64 a0_1), .row 1 l0_2.length false (ints .i64 l0_2)], .row 1 l1.length false (ints .i64 l1), .own 0 l2.length, .lit (.int .i64 a3)] [.sl 3 1 l2.length false (ints .i64 l2)] (fun v H' => v = .tup [.own 1 r1.length, .lit (.bool r2)] ∧ H' = [.gone, .sl 3 1 r1.length false (ints .i64 r1)]) := by
 intro k
 induction k using Nat.strongRecOn with
 | _ k ih =>
 intro a0_0 a0_1 l0_2 l1 l2 a3 r1 r2 h
 cases k with
 | zero => exact absurd h (by simp [spec_feSplit.f])
 | succ k =>
 refine ACalls.ofP [8, 9] Try.func16 rfl (by exact Nat.le_of_ble_eq_true rfl) rfl (by decide) ?_
 simp only [Try.ntmps16, env0, spec_feSplit.f] at h ⊢
 refine AWp.seq ?_
 refine AWp.region ?_
 refine L.M M.bx ?_
 refine L.Y Y.asg ?_
 refine L.Y Y.asg ?_
 refine AList.nil ?_
 refine AWp.seq ?_
 refine AWp.seq ?_
 refine AWp.region ?_
 refine L.Y Y.asg ?_
 refine AList.nil ?_
 refine AWp.block ?_
 refine AWp.loopI (fun kk e H => kk ≤ k ∧ ∃ (x2 : List Int) (x3 : Int) (x10 : Int) (x131000 : Int) (x131001 : Int), e = [(1, .row 1 l1.length false (ints .i64 l1)), (2, .own 0 x2.length), (3, .lit (.int .i64 x3)), (4, .ptr 1 0), (10, .lit (.int .i64 x10))] ∧ H = [.sl 3 1 x2.length false (ints .i64 x2), .bx 29 [.lit (.int .i64 x131000), .lit (.int .i64 x131001), .row 1 l0_2.length false (ints .i64 l0_2)]] ∧ spec_feSplit.l0 kk l1 x2 x3 x10 x131000 x131001 l0_2 = some (r1, r2)) (k := k)
  ⟨_, _, ⟨Nat.le_refl _, _, _, _, _, _, rfl, rfl, h⟩, IsPart.at [] [0, 1] base1 (H.c (H.c .nil)) (E.c (E.c (E.c (E.c (E.c .nil)))))⟩ ?_
 clear h
 rintro k1 e H ⟨hk2, x2, x3, x10, x131000, x131001, rfl, rfl, h⟩
 cases k1 with
 | zero => exact absurd h (by simp [spec_feSplit.l0])
 | succ k1 =>
 simp only [spec_feSplit.l0] at h
 refine AWp.seq ?_
 refine AWp.seq ?_
 refine AWp.region ?_
 refine L.Y Y.mv ?_
 refine L.Y Y.mv ?_
 refine L.Y Y.bin ?_
 refine AList.nil ?_
 refine W.cond (fun hb => ?_) (fun hb => ?_)
 ·
  have hb3 := hb
  try simp only [hS, hE, ne_eq] at hb
  first | rw [if_pos hb3] at h | rw [if_neg (Bool.eq_false_iff.1 hb3)] at h | rw [if_pos hb] at h | rw [if_neg hb] at h | (simp only [hb, hT, reduceIte] at h) | skip
  refine AWp.skip ?_
  refine AWp.seq ?_
  refine AWp.block ?_
  refine AWp.seq ?_
  refine Dt.reg [] [] (.t 0 (.y 1 (.y 2 (.y 3 (.one 4 (.one 5 (.y 6 (.y 7 (.y 8 (.y 9 (.y 10 .done))))))))))) HM ?_
  refine Dt.T rfl wantN (D.ldN Try.underlying29 Y29) ?_
  refine Dt.Y rfl wantN Y.mv ?_
  refine Dt.Y rfl wantN Y.mv ?_
  refine Dt.Y rfl wantN Y.mv ?_
  refine Dt.O (g' := false) rfl wantN ?_
  replace h := Option.bind_eq_some_iff.1 h
  obtain ⟨t131, hc4, h⟩ := h
  refine Ox.C true [] Try.func18 (spec_fePart.ac _ _ _ _ _ hc4) .nil ?_
  refine Dt.O (g' := false) rfl wantN ?_
  replace h := Option.bind_eq_some_iff.1 h
  obtain ⟨⟨t134, t137⟩, hc5, h⟩ := h
  dsimp only at h
  refine Ox.C true [] Try.func17 (spec_feOrder.ac _ _ _ _ _ _ _ hc5) .nil ?_
  refine Dt.Y rfl wantN Y.mv ?_
  refine Dt.Y rfl wantN Y.ex ?_
  refine Dt.Y rfl wantN Y.ex ?_
  refine Dt.Y rfl wantN Y.asg ?_
  refine Dt.Y rfl wantN Y.asg ?_
  refine Dt.nil ?_
  refine AWp.seq ?_
  refine W.kp [1, 2, 3, 4, 10, 12, 18] ?_
  refine AWp.region ?_
  refine L.Y Y.mv ?_
  refine L.Y Y.nt ?_
  refine AList.nil ?_
  refine W.cond (fun hb => ?_) (fun hb => ?_)
  ·
   have hb6 := hb
   try simp only [hS, hE, ne_eq] at hb
   first | rw [if_pos hb6] at h | rw [if_neg (Bool.eq_false_iff.1 hb6)] at h | rw [if_pos hb] at h | rw [if_neg hb] at h | (simp only [hb, hT, reduceIte] at h) | skip
   refine AWp.seq ?_
   refine AWp.region ?_
   refine L.Y Y.asg ?_
   refine L.Y Y.asg ?_
   refine AList.nil ?_
   simp only [Option.some.injEq, Prod.mk.injEq] at h
   obtain ⟨rfl, rfl⟩ := h
   refine AWp.ret ?_
   exact ⟨.inr rfl, [(8, _), (9, _)], _, ⟨rfl, rfl⟩, IsPart.at [(0, 0), (3, 1)] [4, 5] base1 (H.c (H.c .nil)) (E.c (E.c .nil))⟩
  ·
   have hb6 := hb
   try simp only [hS, hE, ne_eq] at hb
   first | rw [if_pos hb6] at h | rw [if_neg (Bool.eq_false_iff.1 hb6)] at h | rw [if_pos hb] at h | rw [if_neg hb] at h | (simp only [hb, hT, reduceIte] at h) | skip
   refine AWp.skip ?_
   refine AWp.region ?_
   refine L.Y Y.mv ?_
   refine L.Y Y.bin ?_
   refine L.Y Y.asg ?_
   refine AList.nil ?_
   exact ⟨k1, by omega, _, _, ⟨by omega, _, _, _, _, _, rfl, rfl, h⟩, IsPart.at [] [0, 1] base1 (H.c (H.c .nil)) (E.c (E.c (E.c (E.c (E.c .nil)))))⟩
 ·
  have hb3 := hb
  try simp only [hS, hE, ne_eq] at hb
  first | rw [if_pos hb3] at h | rw [if_neg (Bool.eq_false_iff.1 hb3)] at h | rw [if_pos hb] at h | rw [if_neg hb] at h | (simp only [hb, hT, reduceIte] at h) | skip
  refine AWp.exit ?_
  refine AWp.seq ?_
  refine AWp.seq ?_
  refine AWp.region ?_
  refine L.Y Y.mv ?_
  refine L.Y (Y.ln Try.underlying22) ?_
  refine L.Y Y.mv ?_
  refine L.Y (Y.ln Try.underlying22) ?_
  refine L.Y Y.bin ?_
  refine AList.nil ?_
  refine W.cond (fun hb => ?_) (fun hb => ?_)
  ·
   have hb7 := hb
   try simp only [hS, hE, ne_eq] at hb
   first | rw [if_pos hb7] at h | rw [if_neg (Bool.eq_false_iff.1 hb7)] at h | rw [if_pos hb] at h | rw [if_neg hb] at h | (simp only [hb, hT, reduceIte] at h) | skip
   refine AWp.seq ?_
   refine W.kp [1, 2, 3, 4, 10, 18, 36] ?_
   refine AWp.region ?_
   refine L.Y Y.mv ?_
   refine L.Y Y.asg ?_
   refine L.Y Y.asg ?_
   refine AList.nil ?_
   simp only [Option.some.injEq, Prod.mk.injEq] at h
   obtain ⟨rfl, rfl⟩ := h
   refine AWp.ret ?_
   exact ⟨.inr rfl, [(8, _), (9, _)], _, ⟨rfl, rfl⟩, IsPart.at [(0, 0)] [2, 0] base1 (H.c (H.c .nil)) (E.c (E.c .nil))⟩
  ·
   have hb7 := hb
   try simp only [hS, hE, ne_eq] at hb
   first | rw [if_pos hb7] at h | rw [if_neg (Bool.eq_false_iff.1 hb7)] at h | rw [if_pos hb] at h | rw [if_neg hb] at h | (simp only [hb, hT, reduceIte] at h) | skip
   refine AWp.skip ?_
   refine AWp.seq ?_
   refine AWp.seq ?_
   refine W.kp [1, 2, 3, 4, 10, 18, 36] ?_
   refine AWp.region ?_
   refine L.Y Y.asg ?_
   refine AList.nil ?_
   refine AWp.block ?_
   refine AWp.loopI (fun kk e H => kk ≤ k1 ∧ ∃ (x2 : List Int) (x3 : Int) (x13 : Int) (x131000 : Int) (x131001 : Int), e = [(1, .row 1 l1.length false (ints .i64 l1)), (2, .own 0 x2.length), (3, .lit (.int .i64 x3)), (4, .ptr 1 0), (13, .lit (.int .i64 x13))] ∧ H = [.sl 3 1 x2.length false (ints .i64 x2), .bx 29 [.lit (.int .i64 x131000), .lit (.int .i64 x131001), .row 1 l0_2.length false (ints .i64 l0_2)]] ∧ spec_feSplit.l1 kk l1 x2 x3 x13 x131000 x131001 l0_2 = some (r1, r2)) (k := k1)
    ⟨_, _, ⟨Nat.le_refl _, _, _, _, _, _, rfl, rfl, h⟩, IsPart.at [] [0, 1] base1 (H.c (H.c .nil)) (E.c (E.c (E.c (E.c (E.c .nil)))))⟩ ?_
   clear h
   rintro k8 e H ⟨hk9, x2, x3, x13, x131000, x131001, rfl, rfl, h⟩
   cases k8 with
   | zero => exact absurd h (by simp [spec_feSplit.l1])
   | succ k8 =>
   simp only [spec_feSplit.l1] at h
   refine AWp.seq ?_
   refine AWp.seq ?_
   refine AWp.region ?_
   refine L.Y Y.mv ?_
   refine L.Y Y.mv ?_
   refine L.Y Y.bin ?_
   refine AList.nil ?_
   refine W.cond (fun hb => ?_) (fun hb => ?_)
   ·
    have hb10 := hb
    try simp only [hS, hE, ne_eq] at hb
    first | rw [if_pos hb10] at h | rw [if_neg (Bool.eq_false_iff.1 hb10)] at h | rw [if_pos hb] at h | rw [if_neg hb] at h | (simp only [hb, hT, reduceIte] at h) | skip
    refine AWp.skip ?_
    refine AWp.seq ?_
    refine AWp.block ?_
    refine AWp.seq ?_
    replace h := Option.bind_eq_some_iff.1 h
    obtain ⟨t138, hc11, h⟩ := h
    repeat (first | (rw [iN] at h; obtain ⟨_, h⟩ := h) | (rw [iP] at h; obtain ⟨_, h⟩ := h) | (simp only [bS] at h))
    replace h := Option.bind_eq_some_iff.1 h
    obtain ⟨⟨t144, t147⟩, hc12, h⟩ := h
    dsimp only at h
    apply AWp.joinX
    ·
     refine Dt.reg [] [] (.t 0 (.y 1 (.y 2 (.y 4 (.y 7 (.two 3 (.one 5 (.one 6 (.one 8 (.y 9 (.y 10 (.y 11 (.y 12 (.y 13 .done)))))))) 5 (.one 3 (.one 6 (.one 8 (.y 9 (.y 10 (.y 11 (.y 12 (.y 13 .done)))))))))))))) HM ?_
     refine Dt.T rfl wantN (D.ldN Try.underlying29 Y29) ?_
     refine Dt.Y rfl wantN Y.mv ?_
     refine Dt.Y rfl wantN Y.mv ?_
     refine Dt.Y rfl wantN Y.mv ?_
     refine Dt.Y rfl wantN Y.mv ?_
     refine Dt.B (g1 := false) (g2 := false) rfl rfl wantN wantN ?_ ?_
     ·
      skip
      refine Ox.C true [] Try.func32 (spec_l1Own.ac _ _ hc11) .nil ?_
      refine Dt.O (g' := false) rfl wantN ?_
      refine Ox.M (M.bs Try.underlying22 Y3) ?_
      refine Dt.O (g' := false) rfl wantN ?_
      refine Ox.A (U.ap (nn' := false) Try.underlying22 Y3) ?_
      refine Dt.O (g' := false) rfl wantN ?_
      refine Ox.C true [2] Try.func16 (ih k8 (by omega) _ _ _ _ _ _ _ _ hc12) (H.c .nil) ?_
      refine Dt.Y rfl wantN Y.mv ?_
      refine Dt.Y rfl wantN Y.ex ?_
      refine Dt.Y rfl wantN Y.ex ?_
      refine Dt.Y rfl wantN Y.asg ?_
      refine Dt.Y rfl wantN Y.asg ?_
      refine Dt.nil ?_
      exact ⟨rfl, .inl ⟨rfl, rfl⟩⟩
     ·
      skip
      refine Ox.M (M.bs Try.underlying22 Y3) ?_
      refine Dt.O (g' := false) rfl wantN ?_
      refine Ox.C true [] Try.func32 (spec_l1Own.ac _ _ hc11) .nil ?_
      refine Dt.O (g' := false) rfl wantN ?_
      refine Ox.A (U.ap (nn' := false) Try.underlying22 Y3) ?_
      refine Dt.O (g' := false) rfl wantN ?_
      refine Ox.C true [3] Try.func16 (ih k8 (by omega) _ _ _ _ _ _ _ _ hc12) (H.c .nil) ?_
      refine Dt.Y rfl wantN Y.mv ?_
      refine Dt.Y rfl wantN Y.ex ?_
      refine Dt.Y rfl wantN Y.ex ?_
      refine Dt.Y rfl wantN Y.asg ?_
      refine Dt.Y rfl wantN Y.asg ?_
      refine Dt.nil ?_
      exact ⟨rfl, .inr (IsPart.at [] [0, 1, 3, 2, 4] base1 (H.c (H.c (H.c (H.c (H.c .nil))))) (by repeat' first | exact .nil | refine E.c ?_))⟩
    ·
     skip
     refine AWp.seq ?_
     refine W.kp [1, 2, 3, 4, 13, 14, 15, 40] ?_
     refine AWp.region ?_
     refine L.Y Y.mv ?_
     refine AList.nil ?_
     refine W.cond (fun hb => ?_) (fun hb => ?_)
     ·
      have hb13 := hb
      try simp only [hS, hE, ne_eq] at hb
      first | rw [if_pos hb13] at h | rw [if_neg (Bool.eq_false_iff.1 hb13)] at h | rw [if_pos hb] at h | rw [if_neg hb] at h | (simp only [hb, hT, reduceIte] at h) | skip
      refine AWp.seq ?_
      refine AWp.region ?_
      refine L.Y Y.mv ?_
      refine L.Y Y.asg ?_
      refine L.Y Y.asg ?_
      refine AList.nil ?_
      simp only [Option.some.injEq, Prod.mk.injEq] at h
      obtain ⟨rfl, rfl⟩ := h
      refine AWp.ret ?_
      exact ⟨.inr rfl, [(8, _), (9, _)], _, ⟨rfl, rfl⟩, IsPart.at [(0, 0)] [5, 4] base1 (H.c (H.c .nil)) (E.c (E.c .nil))⟩
     ·
      have hb13 := hb
      try simp only [hS, hE, ne_eq] at hb
      first | rw [if_pos hb13] at h | rw [if_neg (Bool.eq_false_iff.1 hb13)] at h | rw [if_pos hb] at h | rw [if_neg hb] at h | (simp only [hb, hT, reduceIte] at h) | skip
      refine AWp.skip ?_
      refine AWp.region ?_
      refine L.Y Y.mv ?_
      refine L.Y Y.bin ?_
      refine L.Y Y.asg ?_
      refine AList.nil ?_
      exact ⟨k8, by omega, _, _, ⟨by omega, _, _, _, _, _, rfl, rfl, h⟩, IsPart.at [] [0, 1] base1 (H.c (H.c .nil)) (E.c (E.c (E.c (E.c (E.c .nil)))))⟩
   ·
    have hb10 := hb
    try simp only [hS, hE, ne_eq] at hb
    first | rw [if_pos hb10] at h | rw [if_neg (Bool.eq_false_iff.1 hb10)] at h | rw [if_pos hb] at h | rw [if_neg hb] at h | (simp only [hb, hT, reduceIte] at h) | skip
    refine AWp.exit ?_
    refine AWp.seq ?_
    refine AWp.region ?_
    refine L.Y Y.asg ?_
    refine L.Y Y.asg ?_
    refine AList.nil ?_
    simp only [Option.some.injEq, Prod.mk.injEq] at h
    obtain ⟨rfl, rfl⟩ := h
    refine AWp.ret ?_
    exact ⟨.inr rfl, [(8, _), (9, _)], _, ⟨rfl, rfl⟩, IsPart.at [(0, 0), (3, 1)] [2, 3] base1 (H.c (H.c .nil)) (E.c (E.c .nil))⟩

/-! ### spec_l1In: function 41 -/
def spec_l1In.f (a0 : Int) (a1 : Int) (a2 : Int) : Option (Bool) := if a0 ≥ a1 then (some (decide (a0 ≤ a2))) else (some false)
set_option maxRecDepth 100000 in
set_option maxHeartbeats 20000000 in
theorem spec_l1In.ac (a0 : Int) (a1 : Int) (a2 : Int) (r : Bool) (h : spec_l1In.f a0 a1 a2 = some r) :
  ACalls Try.prog 41 [.lit (.int .i64 a0), .lit (.int .i64 a1), .lit (.int .i64 a2)] [] (fun v H' => v = .lit (.bool r) ∧ H' = []) := by
 refine ACalls.ofP [6] Try.func41 rfl (by exact Nat.le_of_ble_eq_true rfl) rfl (by decide) ?_
 simp only [Try.ntmps41, env0, spec_l1In.f] at h ⊢
 refine AWp.seq ?_
 refine AWp.region ?_
 refine L.Y Y.asg ?_
 refine AList.nil ?_
 refine AWp.seq ?_
 refine AWp.region ?_
 refine L.Y Y.mv ?_
 refine L.Y Y.mv ?_
 refine L.Y Y.bin ?_
 refine L.Y Y.mv ?_
 refine L.Gc (fun hb => ?_) (fun hb => ?_)
 ·
  have hb1 := hb
  try simp only [hS, hE, ne_eq] at hb
  first | rw [if_pos hb1] at h | rw [if_neg (Bool.eq_false_iff.1 hb1)] at h | rw [if_pos hb] at h | rw [if_neg hb] at h | (simp only [hb, hT, reduceIte] at h) | skip
  refine L.Gy hb1 Y.mv ?_
  refine L.Gy hb1 Y.mv ?_
  refine L.Gy hb1 Y.bin ?_
  refine L.Y (Y.pk (c := true) hb1) ?_
  refine L.Y Y.asg ?_
  refine AList.nil ?_
  obtain rfl := Option.some.inj h
  refine AWp.ret ?_
  exact ⟨.inr rfl, [(6, _)], _, ⟨rfl, rfl⟩, IsPart.at [] [] base0 .nil (E.c .nil)⟩
 ·
  have hb1 := hb
  try simp only [hS, hE, ne_eq] at hb
  first | rw [if_pos hb1] at h | rw [if_neg (Bool.eq_false_iff.1 hb1)] at h | rw [if_pos hb] at h | rw [if_neg hb] at h | (simp only [hb, hT, reduceIte] at h) | skip
  refine L.Gn hb1 ?_
  refine L.Gn hb1 ?_
  refine L.Gn hb1 ?_
  refine L.Y (Y.pk (c := false) hb1) ?_
  refine L.Y Y.asg ?_
  refine AList.nil ?_
  obtain rfl := Option.some.inj h
  refine AWp.ret ?_
  exact ⟨.inr rfl, [(6, _)], _, ⟨rfl, rfl⟩, IsPart.at [] [] base0 .nil (E.c .nil)⟩

/-! ### spec_l1All: function 42 -/
def spec_l1All.l0 : Nat → Int → Int → List Int → Int → Int → Option (Bool)
 | 0, _, _, _, _, _ => none
 | k + 1, x1, x2, x9, x10, x11 => if x11 < x10 then (if 0 ≤ x11 then (if x11 < (x9.length : Int) then ((spec_l1In.f (rd x9 x11) x1 x2).bind fun t149 => (if t149 = true then (spec_l1All.l0 k x1 x2 x9 x10 (wrap64 (x11 + 1))) else (some false))) else (none)) else (none)) else (some true)
def spec_l1All.f (k : Nat) (l0 : List Int) (a1 : Int) (a2 : Int) : Option (Bool) := spec_l1All.l0 k a1 a2 l0 (l0.length : Int) 0
set_option maxRecDepth 100000 in
set_option maxHeartbeats 20000000 in
theorem spec_l1All.ac (k : Nat) (l0 : List Int) (a1 : Int) (a2 : Int) (r : Bool) (h : spec_l1All.f k l0 a1 a2 = some r) :
  ACalls Try.prog 42 [.row 1 l0.length false (ints .i64 l0), .lit (.int .i64 a1), .lit (.int .i64 a2)] [] (fun v H' => v = .lit (.bool r) ∧ H' = []) := by
 refine ACalls.ofP [6] Try.func42 rfl (by exact Nat.le_of_ble_eq_true rfl) rfl (by decide) ?_
 simp only [Try.ntmps42, env0, spec_l1All.f] at h ⊢
 refine AWp.seq ?_
 refine AWp.region ?_
 refine L.Y Y.asg ?_
 refine AList.nil ?_
 refine AWp.seq ?_
 refine AWp.seq ?_
 refine AWp.region ?_
 refine L.Y Y.mv ?_
 refine L.Y (Y.ln Try.underlying22) ?_
 refine L.Y Y.mv ?_
 refine AList.nil ?_
 refine AWp.block ?_
 refine AWp.loopI (fun kk e H => kk ≤ k ∧ ∃ (x1 : Int) (x2 : Int) (x10 : Int) (x11 : Int), e = [(1, .lit (.int .i64 x1)), (2, .lit (.int .i64 x2)), (9, .row 1 l0.length false (ints .i64 l0)), (10, .lit (.int .i64 x10)), (11, .lit (.int .i64 x11))] ∧ H = [] ∧ spec_l1All.l0 kk x1 x2 l0 x10 x11 = some r) (k := k)
  ⟨_, _, ⟨Nat.le_refl _, _, _, _, _, rfl, rfl, h⟩, IsPart.at [] [] base0 .nil (E.c (E.c (E.c (E.c (E.c .nil)))))⟩ ?_
 clear h
 rintro k1 e H ⟨hk2, x1, x2, x10, x11, rfl, rfl, h⟩
 cases k1 with
 | zero => exact absurd h (by simp [spec_l1All.l0])
 | succ k1 =>
 simp only [spec_l1All.l0] at h
 refine AWp.seq ?_
 refine AWp.region ?_
 refine L.Y Y.bin ?_
 refine AList.nil ?_
 refine AWp.seq ?_
 refine W.cond (fun hb => ?_) (fun hb => ?_)
 ·
  have hb3 := hb
  try simp only [hS, hE, ne_eq] at hb
  first | rw [if_pos hb3] at h | rw [if_neg (Bool.eq_false_iff.1 hb3)] at h | rw [if_pos hb] at h | rw [if_neg hb] at h | (simp only [hb, hT, reduceIte] at h) | skip
  repeat (first | (rw [iN] at h; obtain ⟨_, h⟩ := h) | (rw [iP] at h; obtain ⟨_, h⟩ := h) | (simp only [bS] at h))
  refine AWp.skip ?_
  refine AWp.seq ?_
  refine AWp.block ?_
  refine AWp.seq ?_
  refine AWp.region ?_
  refine L.Y (Y.ixr Try.underlying22 Y3) ?_
  refine L.S (S.ld Try.underlying3) ?_
  refine L.Y Y.asg ?_
  refine AList.nil ?_
  refine AWp.seq ?_
  refine AWp.region ?_
  refine L.Y Y.mv ?_
  refine L.Y Y.mv ?_
  refine L.Y Y.mv ?_
  replace h := Option.bind_eq_some_iff.1 h
  obtain ⟨t149, hc4, h⟩ := h
  refine L.C (C.callE (l := true) [] Try.func41 (spec_l1In.ac _ _ _ _ hc4) .nil ?_)
  refine L.Y Y.nt ?_
  refine AList.nil ?_
  refine W.cond (fun hb => ?_) (fun hb => ?_)
  ·
   have hb5 := hb
   try simp only [hS, hE, ne_eq] at hb
   first | rw [if_pos hb5] at h | rw [if_neg (Bool.eq_false_iff.1 hb5)] at h | rw [if_pos hb] at h | rw [if_neg hb] at h | (simp only [hb, hT, reduceIte] at h) | skip
   refine AWp.seq ?_
   refine W.kp [1, 2, 8, 9, 10, 11, 12, 19] ?_
   refine AWp.region ?_
   refine L.Y Y.asg ?_
   refine AList.nil ?_
   obtain rfl := Option.some.inj h
   refine AWp.ret ?_
   exact ⟨.inr rfl, [(6, _)], _, ⟨rfl, rfl⟩, IsPart.at [] [] base0 .nil (E.c .nil)⟩
  ·
   have hb5 := hb
   try simp only [hS, hE, ne_eq] at hb
   first | rw [if_pos hb5] at h | rw [if_neg (Bool.eq_false_iff.1 hb5)] at h | rw [if_pos hb] at h | rw [if_neg hb] at h | (simp only [hb, hT, reduceIte] at h) | skip
   refine AWp.skip ?_
   refine W.kp [1, 2, 8, 9, 10, 11, 12, 19] ?_
   refine AWp.region ?_
   refine L.Y Y.bin ?_
   refine L.Y Y.mv ?_
   refine AList.nil ?_
   exact ⟨k1, by omega, _, _, ⟨by omega, _, _, _, _, rfl, rfl, h⟩, IsPart.at [] [] base0 .nil (E.c (E.c (E.c (E.c (E.c .nil)))))⟩
 ·
  have hb3 := hb
  try simp only [hS, hE, ne_eq] at hb
  first | rw [if_pos hb3] at h | rw [if_neg (Bool.eq_false_iff.1 hb3)] at h | rw [if_pos hb] at h | rw [if_neg hb] at h | (simp only [hb, hT, reduceIte] at h) | skip
  refine AWp.exit ?_
  refine AWp.seq ?_
  refine AWp.region ?_
  refine L.Y Y.asg ?_
  refine AList.nil ?_
  obtain rfl := Option.some.inj h
  refine AWp.ret ?_
  exact ⟨.inr rfl, [(6, _)], _, ⟨rfl, rfl⟩, IsPart.at [] [] base0 .nil (E.c .nil)⟩

/-! ### spec_feGood: function 39 -/
def spec_feGood.f (k : Nat) (a0_0 : Int) (a0_1 : Int) (l0_2 : List Int) : Option (Bool) := (spec_l1In.f a0_0 1 6).bind fun t151 => (if t151 = true then ((spec_l1In.f a0_1 1 6).bind fun t152 => (if t152 = true then (if (l0_2.length : Int) = a0_0 then (if 0 ≤ a0_1 then ((spec_l1All.f k l0_2 0 (wrap64 ((shl .i64 1 a0_1) - 1))).bind fun t153 => (some t153)) else (none)) else (some false)) else (some false))) else (some false))
set_option maxRecDepth 100000 in
set_option maxHeartbeats 20000000 in
theorem spec_feGood.ac (k : Nat) (a0_0 : Int) (a0_1 : Int) (l0_2 : List Int) (r : Bool) (h : spec_feGood.f k a0_0 a0_1 l0_2 = some r) :
  ACalls Try.prog 39 [.agg [.lit (.int .i64 a0_0), .lit (.int .i64 a0_1), .row 1 l0_2.length false (ints .i64 l0_2)]] [] (fun v H' => v = .lit (.bool r) ∧ H' = []) := by
 refine ACalls.ofP [2] Try.func39 rfl (by exact Nat.le_of_ble_eq_true rfl) rfl (by decide) ?_
 simp only [Try.ntmps39, env0, spec_feGood.f] at h ⊢
 refine AWp.seq ?_
 refine AWp.region ?_
 refine L.M M.bx ?_
 refine L.Y Y.asg ?_
 refine AList.nil ?_
 refine AWp.seq ?_
 refine Dt.reg [] [] (.y 0 (.t 1 (.one 2 (.y 3 (.y 4 (.t 5 (.one 6 (.y 7 (.y 8 (.y 9 (.t 10 (.y 11 (.y 12 (.t 13 (.y 14 (.y 15 (.y 16 (.y 17 (.t 18 (.y 19 (.t 20 (.y 21 (.y 22 (.one 23 (.y 24 (.y 25 .done)))))))))))))))))))))))))) HM ?_
 refine Dt.Y rfl wantN (Y.fa (off := 0) Try.underlying29 Y3) ?_
 refine Dt.T rfl wantN (D.ld Try.underlying3) ?_
 refine Dt.O (g' := false) rfl wantN ?_
 replace h := Option.bind_eq_some_iff.1 h
 obtain ⟨t151, hc1, h⟩ := h
 refine Ox.C true [] Try.func41 (spec_l1In.ac _ _ _ _ hc1) .nil ?_
 refine Dt.Y rfl wantN Y.mv ?_
 refine Dt.F 6 (fun hb => ?_) (fun hb => ?_)
 ·
  have hb2 := hb
  try simp only [hS, hE, ne_eq] at hb
  first | rw [if_pos hb2] at h | rw [if_neg (Bool.eq_false_iff.1 hb2)] at h | rw [if_pos hb] at h | rw [if_neg hb] at h | (simp only [hb, hT, reduceIte] at h) | skip
  refine Dt.Y rfl (wantY hb2) (Y.fa (off := 1) Try.underlying29 Y3) ?_
  refine Dt.T rfl (wantY hb2) (D.ld Try.underlying3) ?_
  refine Dt.O (g' := false) rfl (wantY hb2) ?_
  replace h := Option.bind_eq_some_iff.1 h
  obtain ⟨t152, hc3, h⟩ := h
  refine Ox.C true [] Try.func41 (spec_l1In.ac _ _ _ _ hc3) .nil ?_
  refine Dt.Y rfl wantN (Y.pk (c := true) hb2) ?_
  refine Dt.Y rfl wantN Y.mv ?_
  refine Dt.F 11 (fun hb => ?_) (fun hb => ?_)
  ·
   have hb4 := hb
   try simp only [hS, hE, ne_eq] at hb
   first | rw [if_pos hb4] at h | rw [if_neg (Bool.eq_false_iff.1 hb4)] at h | rw [if_pos hb] at h | rw [if_neg hb] at h | (simp only [hb, hT, reduceIte] at h) | skip
   refine Dt.Y rfl (wantY hb4) (Y.fa (off := 2) Try.underlying29 Y22) ?_
   refine Dt.T rfl (wantY hb4) (D.ld Try.underlying22) ?_
   refine Dt.Y rfl (wantY hb4) (Y.ln Try.underlying22) ?_
   refine Dt.Y rfl (wantY hb4) (Y.fa (off := 0) Try.underlying29 Y3) ?_
   refine Dt.T rfl (wantY hb4) (D.ld Try.underlying3) ?_
   refine Dt.Y rfl (wantY hb4) Y.bin ?_
   refine Dt.Y rfl wantN (Y.pk (c := true) hb4) ?_
   refine Dt.Y rfl wantN Y.mv ?_
   refine Dt.F 19 (fun hb => ?_) (fun hb => ?_)
   ·
    have hb5 := hb
    try simp only [hS, hE, ne_eq] at hb
    first | rw [if_pos hb5] at h | rw [if_neg (Bool.eq_false_iff.1 hb5)] at h | rw [if_pos hb] at h | rw [if_neg hb] at h | (simp only [hb, hT, reduceIte] at h) | skip
    repeat (first | (rw [iN] at h; obtain ⟨_, h⟩ := h) | (rw [iP] at h; obtain ⟨_, h⟩ := h) | (simp only [bS] at h))
    refine Dt.Y rfl (wantY hb5) (Y.fa (off := 2) Try.underlying29 Y22) ?_
    refine Dt.T rfl (wantY hb5) (D.ld Try.underlying22) ?_
    refine Dt.Y rfl (wantY hb5) (Y.fa (off := 1) Try.underlying29 Y3) ?_
    refine Dt.T rfl (wantY hb5) (D.ld Try.underlying3) ?_
    refine Dt.Y rfl (wantY hb5) Y.bin ?_
    refine Dt.Y rfl (wantY hb5) Y.bin ?_
    refine Dt.O (g' := false) rfl (wantY hb5) ?_
    replace h := Option.bind_eq_some_iff.1 h
    obtain ⟨t153, hc6, h⟩ := h
    refine Ox.C true [] Try.func42 (spec_l1All.ac _ _ _ _ _ hc6) .nil ?_
    refine Dt.Y rfl wantN (Y.pk (c := true) hb5) ?_
    refine Dt.Y rfl wantN Y.asg ?_
    refine Dt.nil ?_
    obtain rfl := Option.some.inj h
    refine AWp.ret ?_
    exact ⟨.inr rfl, [(2, _)], _, ⟨rfl, rfl⟩, IsPart.at [] [] base0 .nil (E.c .nil)⟩
   ·
    have hb5 := hb
    try simp only [hS, hE, ne_eq] at hb
    first | rw [if_pos hb5] at h | rw [if_neg (Bool.eq_false_iff.1 hb5)] at h | rw [if_pos hb] at h | rw [if_neg hb] at h | (simp only [hb, hT, reduceIte] at h) | skip
    refine Dt.No rfl (wantZ hb5) ?_
    refine Dt.Nt rfl (wantZ hb5) ?_
    refine Dt.No rfl (wantZ hb5) ?_
    refine Dt.Nt rfl (wantZ hb5) ?_
    refine Dt.No rfl (wantZ hb5) ?_
    refine Dt.No rfl (wantZ hb5) ?_
    refine Dt.Po rfl (wantZ hb5) ?_
    refine Dt.Y rfl wantN (Y.pk (c := false) hb5) ?_
    refine Dt.Y rfl wantN Y.asg ?_
    refine Dt.nil ?_
    obtain rfl := Option.some.inj h
    refine AWp.ret ?_
    exact ⟨.inr rfl, [(2, _)], _, ⟨rfl, rfl⟩, IsPart.at [] [] base0 .nil (E.c .nil)⟩
  ·
   have hb4 := hb
   try simp only [hS, hE, ne_eq] at hb
   first | rw [if_pos hb4] at h | rw [if_neg (Bool.eq_false_iff.1 hb4)] at h | rw [if_pos hb] at h | rw [if_neg hb] at h | (simp only [hb, hT, reduceIte] at h) | skip
   refine Dt.No rfl (wantZ hb4) ?_
   refine Dt.Nt rfl (wantZ hb4) ?_
   refine Dt.No rfl (wantZ hb4) ?_
   refine Dt.No rfl (wantZ hb4) ?_
   refine Dt.Nt rfl (wantZ hb4) ?_
   refine Dt.No rfl (wantZ hb4) ?_
   refine Dt.Y rfl wantN (Y.pk (c := false) hb4) ?_
   refine Dt.Y rfl wantN Y.mv ?_
   refine Dt.F 19 (fun hb => ?_) (fun hb => ?_)
   ·
    first | exact Bool.false_ne_true ((Eq.symm (by assumption)).trans hb) | exact Bool.false_ne_true (hb.symm.trans (by assumption)) | exact DD hb
   have hb7 := hb
   refine Dt.No rfl (wantZ hb7) ?_
   refine Dt.Nt rfl (wantZ hb7) ?_
   refine Dt.No rfl (wantZ hb7) ?_
   refine Dt.Nt rfl (wantZ hb7) ?_
   refine Dt.No rfl (wantZ hb7) ?_
   refine Dt.No rfl (wantZ hb7) ?_
   refine Dt.Po rfl (wantZ hb7) ?_
   refine Dt.Y rfl wantN (Y.pk (c := false) hb7) ?_
   refine Dt.Y rfl wantN Y.asg ?_
   refine Dt.nil ?_
   obtain rfl := Option.some.inj h
   refine AWp.ret ?_
   exact ⟨.inr rfl, [(2, _)], _, ⟨rfl, rfl⟩, IsPart.at [] [] base0 .nil (E.c .nil)⟩
 ·
  have hb2 := hb
  try simp only [hS, hE, ne_eq] at hb
  first | rw [if_pos hb2] at h | rw [if_neg (Bool.eq_false_iff.1 hb2)] at h | rw [if_pos hb] at h | rw [if_neg hb] at h | (simp only [hb, hT, reduceIte] at h) | skip
  refine Dt.No rfl (wantZ hb2) ?_
  refine Dt.Nt rfl (wantZ hb2) ?_
  refine Dt.Po rfl (wantZ hb2) ?_
  refine Dt.Y rfl wantN (Y.pk (c := false) hb2) ?_
  refine Dt.Y rfl wantN Y.mv ?_
  refine Dt.F 11 (fun hb => ?_) (fun hb => ?_)
  ·
   first | exact Bool.false_ne_true ((Eq.symm (by assumption)).trans hb) | exact Bool.false_ne_true (hb.symm.trans (by assumption)) | exact DD hb
  have hb8 := hb
  refine Dt.No rfl (wantZ hb8) ?_
  refine Dt.Nt rfl (wantZ hb8) ?_
  refine Dt.No rfl (wantZ hb8) ?_
  refine Dt.No rfl (wantZ hb8) ?_
  refine Dt.Nt rfl (wantZ hb8) ?_
  refine Dt.No rfl (wantZ hb8) ?_
  refine Dt.Y rfl wantN (Y.pk (c := false) hb8) ?_
  refine Dt.Y rfl wantN Y.mv ?_
  refine Dt.F 19 (fun hb => ?_) (fun hb => ?_)
  ·
   first | exact Bool.false_ne_true ((Eq.symm (by assumption)).trans hb) | exact Bool.false_ne_true (hb.symm.trans (by assumption)) | exact DD hb
  have hb9 := hb
  refine Dt.No rfl (wantZ hb9) ?_
  refine Dt.Nt rfl (wantZ hb9) ?_
  refine Dt.No rfl (wantZ hb9) ?_
  refine Dt.Nt rfl (wantZ hb9) ?_
  refine Dt.No rfl (wantZ hb9) ?_
  refine Dt.No rfl (wantZ hb9) ?_
  refine Dt.Po rfl (wantZ hb9) ?_
  refine Dt.Y rfl wantN (Y.pk (c := false) hb9) ?_
  refine Dt.Y rfl wantN Y.asg ?_
  refine Dt.nil ?_
  obtain rfl := Option.some.inj h
  refine AWp.ret ?_
  exact ⟨.inr rfl, [(2, _)], _, ⟨rfl, rfl⟩, IsPart.at [] [] base0 .nil (E.c .nil)⟩

/-! ### spec_feFew: function 30 -/
def spec_feFew.f (k : Nat) (a0_0 : Int) (a0_1 : Int) (l0_2 : List Int) : Option (Bool) := (spec_feGood.f k a0_0 a0_1 l0_2).bind fun t155 => (if t155 = true then ((spec_feEmpty.f k a0_0 a0_1 l0_2).bind fun t156 => (some (decide ((t156.length : Int) ≤ 9)))) else (some false))
set_option maxRecDepth 100000 in
set_option maxHeartbeats 20000000 in
theorem spec_feFew.ac (k : Nat) (a0_0 : Int) (a0_1 : Int) (l0_2 : List Int) (r : Bool) (h : spec_feFew.f k a0_0 a0_1 l0_2 = some r) :
  ACalls Try.prog 30 [.agg [.lit (.int .i64 a0_0), .lit (.int .i64 a0_1), .row 1 l0_2.length false (ints .i64 l0_2)]] [] (fun v H' => v = .lit (.bool r) ∧ H' = []) := by
 refine ACalls.ofP [2] Try.func30 rfl (by exact Nat.le_of_ble_eq_true rfl) rfl (by decide) ?_
 simp only [Try.ntmps30, env0, spec_feFew.f] at h ⊢
 refine AWp.seq ?_
 refine AWp.region ?_
 refine L.M M.bx ?_
 refine L.Y Y.asg ?_
 refine AList.nil ?_
 refine AWp.seq ?_
 refine AWp.region ?_
 refine L.S (S.ldN Try.underlying29 Y29) ?_
 replace h := Option.bind_eq_some_iff.1 h
 obtain ⟨t155, hc1, h⟩ := h
 refine L.C (C.callE (l := true) [] Try.func39 (spec_feGood.ac _ _ _ _ _ hc1) .nil ?_)
 refine L.Y Y.mv ?_
 refine L.Gc (fun hb => ?_) (fun hb => ?_)
 ·
  have hb2 := hb
  try simp only [hS, hE, ne_eq] at hb
  first | rw [if_pos hb2] at h | rw [if_neg (Bool.eq_false_iff.1 hb2)] at h | rw [if_pos hb] at h | rw [if_neg hb] at h | (simp only [hb, hT, reduceIte] at h) | skip
  refine L.Gs hb2 (S.ldN Try.underlying29 Y29) ?_
  replace h := Option.bind_eq_some_iff.1 h
  obtain ⟨t156, hc3, h⟩ := h
  refine L.GC hb2 (C.callE (l := true) [] Try.func15 (spec_feEmpty.ac _ _ _ _ _ hc3) .nil ?_)
  refine L.Gy hb2 (Y.ln Try.underlying22) ?_
  refine L.Gy hb2 Y.bin ?_
  refine L.Y (Y.pk (c := true) hb2) ?_
  refine L.Y Y.asg ?_
  refine AList.nil ?_
  obtain rfl := Option.some.inj h
  refine AWp.ret ?_
  exact ⟨.inr rfl, [(2, _)], _, ⟨rfl, rfl⟩, IsPart.at [] [] base0 .nil (E.c .nil)⟩
 ·
  have hb2 := hb
  try simp only [hS, hE, ne_eq] at hb
  first | rw [if_pos hb2] at h | rw [if_neg (Bool.eq_false_iff.1 hb2)] at h | rw [if_pos hb] at h | rw [if_neg hb] at h | (simp only [hb, hT, reduceIte] at h) | skip
  refine L.Gn hb2 ?_
  refine L.Gn hb2 ?_
  refine L.Gn hb2 ?_
  refine L.Gn hb2 ?_
  refine L.Y (Y.pk (c := false) hb2) ?_
  refine L.Y Y.asg ?_
  refine AList.nil ?_
  obtain rfl := Option.some.inj h
  refine AWp.ret ?_
  exact ⟨.inr rfl, [(2, _)], _, ⟨rfl, rfl⟩, IsPart.at [] [] base0 .nil (E.c .nil)⟩

end Go.Proofs.Ytboaffpfphkneaa.PFnExactMeetOfBiorders
