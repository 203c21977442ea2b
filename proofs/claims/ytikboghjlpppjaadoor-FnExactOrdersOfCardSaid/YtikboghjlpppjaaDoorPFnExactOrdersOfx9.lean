-- Written by a program of this session's (wip/myprint2): the functions by the kit's print, the walks by awgen.py. Lean checks it.
import Derived.Test.YtikboghjlpppjaaDoorPFnExactOrdersOfx0
import Derived.Test.YtikboghjlpppjaaDoorPFnExactOrdersOfx8
namespace Go.Proofs.YtikboghjlpppjaaDoor.PFnExactOrdersOf
open Go.RowKit Go.Proofs.YtikboghjlpppjaaDoorW.PrintWords Go.Proofs.YtikboghjlpppjaaDoorW.PrintLast Go.Proofs.YtikboghjlpppjaaDoorW.PrintMore Go.Proofs.YtikboghjlpppjaaDoorM Go.Proofs.YtikboghjlpppjaaDoorA Go.Proofs.YtikboghjlpppjaaDoorT
attribute [local go_sem] max2_int min2_int max_two min_two max_three min_three max_four min_four   -- for this text's walks alone
set_option linter.unusedVariables false
set_option linter.unusedSimpArgs false

/-! ### laws_eqOrder: function 14 -/
def laws_eqOrder.f (k : Nat) (a0_0 : Int) (l0_1 : List Int) (a1_0 : Int) (l1_1 : List Int) : Option (Bool) := if a0_0 = a1_0 then ((laws_eqIntS.f k l0_1 l1_1).bind fun t365 => (if t365 = true then (some true) else (some false))) else (some false)
set_option maxRecDepth 100000 in
set_option maxHeartbeats 20000000 in
theorem laws_eqOrder.ac (k : Nat) (a0_0 : Int) (l0_1 : List Int) (a1_0 : Int) (l1_1 : List Int) (r : Bool) (h : laws_eqOrder.f k a0_0 l0_1 a1_0 l1_1 = some r) :
  ACalls Tryd.prog 14 [.agg [.lit (.int .i64 a0_0), .row 1 l0_1.length false (ints .i64 l0_1)], .agg [.lit (.int .i64 a1_0), .row 1 l1_1.length false (ints .i64 l1_1)]] [] (fun v H' => v = .lit (.bool r) ∧ H' = []) := by
 refine ACalls.ofP [4] Tryd.func14 rfl (by exact Nat.le_of_ble_eq_true rfl) rfl (by decide) ?_
 simp only [Tryd.ntmps14, env0, laws_eqOrder.f] at h ⊢
 refine AWp.seq ?_
 refine AWp.region ?_
 refine L.M M.bx ?_
 refine L.M M.bx ?_
 refine L.Y Y.asg ?_
 refine AList.nil ?_
 refine AWp.seq ?_
 refine AWp.seq ?_
 refine AWp.region ?_
 refine L.Y (Y.fa (off := 0) Tryd.underlying34 Y3) ?_
 refine L.S (S.ld Tryd.underlying3) ?_
 refine L.Y (Y.fa (off := 0) Tryd.underlying34 Y3) ?_
 refine L.S (S.ld Tryd.underlying3) ?_
 refine L.Y Y.bin ?_
 refine AList.nil ?_
 refine W.cond (fun hb => ?_) (fun hb => ?_)
 ·
  have hb1 := hb
  try simp only [hS, hE, ne_eq] at hb
  first | rw [if_pos hb1] at h | rw [if_neg (Bool.eq_false_iff.1 hb1)] at h | rw [if_pos hb] at h | rw [if_neg hb] at h | (simp only [hb, hT, reduceIte] at h) | skip
  refine AWp.seq ?_
  refine W.kp [0, 1, 2, 3, 4, 9] ?_
  refine AWp.region ?_
  refine L.Y Y.asg ?_
  refine AList.nil ?_
  obtain rfl := Option.some.inj h
  refine AWp.ret ?_
  exact ⟨.inr rfl, [(4, _)], _, ⟨rfl, rfl⟩, IsPart.at [] [] base0 .nil (E.c .nil)⟩
 ·
  have hb1 := hb
  try simp only [hS, hE, ne_eq] at hb
  first | rw [if_pos hb1] at h | rw [if_neg (Bool.eq_false_iff.1 hb1)] at h | rw [if_pos hb] at h | rw [if_neg hb] at h | (simp only [hb, hT, reduceIte] at h) | skip
  refine AWp.skip ?_
  refine AWp.seq ?_
  refine AWp.seq ?_
  refine W.kp [0, 1, 2, 3, 4, 9] ?_
  refine AWp.region ?_
  refine L.Y (Y.fa (off := 1) Tryd.underlying34 Y32) ?_
  refine L.S (S.ld Tryd.underlying32) ?_
  refine L.Y (Y.fa (off := 1) Tryd.underlying34 Y32) ?_
  refine L.S (S.ld Tryd.underlying32) ?_
  replace h := Option.bind_eq_some_iff.1 h
  obtain ⟨t365, hc2, h⟩ := h
  refine L.C (C.callE (l := true) [] Tryd.func25 (laws_eqIntS.ac _ _ _ _ hc2) .nil ?_)
  refine L.Y Y.nt ?_
  refine AList.nil ?_
  refine W.cond (fun hb => ?_) (fun hb => ?_)
  ·
   have hb3 := hb
   try simp only [hS, hE, ne_eq] at hb
   first | rw [if_pos hb3] at h | rw [if_neg (Bool.eq_false_iff.1 hb3)] at h | rw [if_pos hb] at h | rw [if_neg hb] at h | (simp only [hb, hT, reduceIte] at h) | skip
   refine AWp.seq ?_
   refine W.kp [0, 1, 2, 3, 4, 9, 15] ?_
   refine AWp.region ?_
   refine L.Y Y.asg ?_
   refine AList.nil ?_
   obtain rfl := Option.some.inj h
   refine AWp.ret ?_
   exact ⟨.inr rfl, [(4, _)], _, ⟨rfl, rfl⟩, IsPart.at [] [] base0 .nil (E.c .nil)⟩
  ·
   have hb3 := hb
   try simp only [hS, hE, ne_eq] at hb
   first | rw [if_pos hb3] at h | rw [if_neg (Bool.eq_false_iff.1 hb3)] at h | rw [if_pos hb] at h | rw [if_neg hb] at h | (simp only [hb, hT, reduceIte] at h) | skip
   refine AWp.skip ?_
   refine AWp.seq ?_
   refine W.kp [0, 1, 2, 3, 4, 9, 15] ?_
   refine AWp.region ?_
   refine L.Y Y.asg ?_
   refine AList.nil ?_
   obtain rfl := Option.some.inj h
   refine AWp.ret ?_
   exact ⟨.inr rfl, [(4, _)], _, ⟨rfl, rfl⟩, IsPart.at [] [] base0 .nil (E.c .nil)⟩

/-! ### laws_eqOrderS: function 6 -/
def laws_eqOrderS.l0 : Nat → List (S34) → List (S34) → Int → Option (Bool)
 | 0, _, _, _ => none
 | k + 1, x0, x1, x5 => if x5 < (x0.length : Int) then (if 0 ≤ x5 then (if x5 < (x1.length : Int) then ((laws_eqOrder.f k ((Enc.rd x0 x5).f0) ((Enc.rd x0 x5).f1) ((Enc.rd x1 x5).f0) ((Enc.rd x1 x5).f1)).bind fun t368 => (if t368 = true then (laws_eqOrderS.l0 k x0 x1 (wrap64 (x5 + 1))) else (some false))) else (none)) else (none)) else (some true)
def laws_eqOrderS.f (k : Nat) (l0 : List (S34)) (l1 : List (S34)) : Option (Bool) := if (l0.length : Int) = (l1.length : Int) then (laws_eqOrderS.l0 k l0 l1 0) else (some false)
set_option maxRecDepth 100000 in
set_option maxHeartbeats 20000000 in
theorem laws_eqOrderS.ac (k : Nat) (l0 : List (S34)) (l1 : List (S34)) (r : Bool) (h : laws_eqOrderS.f k l0 l1 = some r) :
  ACalls Tryd.prog 6 [.row 2 l0.length false (Enc.cells l0), .row 2 l1.length false (Enc.cells l1)] [] (fun v H' => v = .lit (.bool r) ∧ H' = []) := by
 refine ACalls.ofP [4] Tryd.func6 rfl (by exact Nat.le_of_ble_eq_true rfl) rfl (by decide) ?_
 simp only [Tryd.ntmps6, env0, laws_eqOrderS.f] at h ⊢
 refine AWp.seq ?_
 refine AWp.region ?_
 refine L.Y Y.asg ?_
 refine AList.nil ?_
 refine AWp.seq ?_
 refine AWp.seq ?_
 refine AWp.region ?_
 refine L.Y Y.mv ?_
 refine L.Y (Y.ln Tryd.underlying22) ?_
 refine L.Y Y.mv ?_
 refine L.Y (Y.ln Tryd.underlying22) ?_
 refine L.Y Y.bin ?_
 refine AList.nil ?_
 refine W.cond (fun hb => ?_) (fun hb => ?_)
 ·
  have hb1 := hb
  try simp only [hS, hE, ne_eq] at hb
  first | rw [if_pos hb1] at h | rw [if_neg (Bool.eq_false_iff.1 hb1)] at h | rw [if_pos hb] at h | rw [if_neg hb] at h | (simp only [hb, hT, reduceIte] at h) | skip
  refine AWp.seq ?_
  refine W.kp [0, 1, 4, 10] ?_
  refine AWp.region ?_
  refine L.Y Y.asg ?_
  refine AList.nil ?_
  obtain rfl := Option.some.inj h
  refine AWp.ret ?_
  exact ⟨.inr rfl, [(4, _)], _, ⟨rfl, rfl⟩, IsPart.at [] [] base0 .nil (E.c .nil)⟩
 ·
  have hb1 := hb
  try simp only [hS, hE, ne_eq] at hb
  first | rw [if_pos hb1] at h | rw [if_neg (Bool.eq_false_iff.1 hb1)] at h | rw [if_pos hb] at h | rw [if_neg hb] at h | (simp only [hb, hT, reduceIte] at h) | skip
  refine AWp.skip ?_
  refine AWp.seq ?_
  refine AWp.seq ?_
  refine W.kp [0, 1, 4, 10] ?_
  refine AWp.region ?_
  refine L.Y Y.asg ?_
  refine AList.nil ?_
  refine AWp.block ?_
  refine AWp.loopI (fun kk e H => kk ≤ k ∧ ∃ (x5 : Int), e = [(0, .row 2 l0.length false (Enc.cells l0)), (1, .row 2 l1.length false (Enc.cells l1)), (5, .lit (.int .i64 x5))] ∧ H = [] ∧ laws_eqOrderS.l0 kk l0 l1 x5 = some r) (k := k)
   ⟨_, _, ⟨Nat.le_refl _, _, rfl, rfl, h⟩, IsPart.at [] [] base0 .nil (E.c (E.c (E.c .nil)))⟩ ?_
  clear h
  rintro k2 e H ⟨hk3, x5, rfl, rfl, h⟩
  cases k2 with
  | zero => exact absurd h (by simp [laws_eqOrderS.l0])
  | succ k2 =>
  simp only [laws_eqOrderS.l0] at h
  refine AWp.seq ?_
  refine AWp.seq ?_
  refine AWp.region ?_
  refine L.Y Y.mv ?_
  refine L.Y Y.mv ?_
  refine L.Y (Y.ln Tryd.underlying22) ?_
  refine L.Y Y.bin ?_
  refine AList.nil ?_
  refine W.cond (fun hb => ?_) (fun hb => ?_)
  ·
   have hb4 := hb
   try simp only [hS, hE, ne_eq] at hb
   first | rw [if_pos hb4] at h | rw [if_neg (Bool.eq_false_iff.1 hb4)] at h | rw [if_pos hb] at h | rw [if_neg hb] at h | (simp only [hb, hT, reduceIte] at h) | skip
   repeat (first | (rw [iN] at h; obtain ⟨_, h⟩ := h) | (rw [iP] at h; obtain ⟨_, h⟩ := h) | (simp only [bS] at h))
   refine AWp.skip ?_
   refine AWp.seq ?_
   refine AWp.block ?_
   refine AWp.seq ?_
   refine Dt.reg [] [] (.y 0 (.y 1 (.y 2 (.t 3 (.y 4 (.y 5 (.y 6 (.t 7 (.one 8 (.y 9 .done)))))))))) HM ?_
   refine Dt.Y rfl wantN Y.mv ?_
   refine Dt.Y rfl wantN Y.mv ?_
   refine Dt.Y rfl wantN (Y.ixrT Tryd.underlying22 Y34 en_T34) ?_
   refine Dt.T rfl wantN (D.ldN Tryd.underlying34 Y34) ?_
   refine Dt.Y rfl wantN Y.mv ?_
   refine Dt.Y rfl wantN Y.mv ?_
   refine Dt.Y rfl wantN (Y.ixrT Tryd.underlying22 Y34 en_T34) ?_
   refine Dt.T rfl wantN (D.ldN Tryd.underlying34 Y34) ?_
   refine Dt.O (g' := false) rfl wantN ?_
   replace h := Option.bind_eq_some_iff.1 h
   obtain ⟨t368, hc5, h⟩ := h
   refine Ox.C true [] Tryd.func14 (laws_eqOrder.ac _ _ _ _ _ _ hc5) .nil ?_
   refine Dt.Y rfl wantN Y.nt ?_
   refine Dt.nil ?_
   refine W.cond (fun hb => ?_) (fun hb => ?_)
   ·
    have hb6 := hb
    try simp only [hS, hE, ne_eq] at hb
    first | rw [if_pos hb6] at h | rw [if_neg (Bool.eq_false_iff.1 hb6)] at h | rw [if_pos hb] at h | rw [if_neg hb] at h | (simp only [hb, hT, reduceIte] at h) | skip
    refine AWp.seq ?_
    refine W.kp [0, 1, 5, 14, 26] ?_
    refine AWp.region ?_
    refine L.Y Y.asg ?_
    refine AList.nil ?_
    obtain rfl := Option.some.inj h
    refine AWp.ret ?_
    exact ⟨.inr rfl, [(4, _)], _, ⟨rfl, rfl⟩, IsPart.at [] [] base0 .nil (E.c .nil)⟩
   ·
    have hb6 := hb
    try simp only [hS, hE, ne_eq] at hb
    first | rw [if_pos hb6] at h | rw [if_neg (Bool.eq_false_iff.1 hb6)] at h | rw [if_pos hb] at h | rw [if_neg hb] at h | (simp only [hb, hT, reduceIte] at h) | skip
    refine AWp.skip ?_
    refine W.kp [0, 1, 5, 14, 26] ?_
    refine AWp.region ?_
    refine L.Y Y.mv ?_
    refine L.Y Y.bin ?_
    refine L.Y Y.asg ?_
    refine AList.nil ?_
    exact ⟨k2, by omega, _, _, ⟨by omega, _, rfl, rfl, h⟩, IsPart.at [] [] base0 .nil (E.c (E.c (E.c .nil)))⟩
  ·
   have hb4 := hb
   try simp only [hS, hE, ne_eq] at hb
   first | rw [if_pos hb4] at h | rw [if_neg (Bool.eq_false_iff.1 hb4)] at h | rw [if_pos hb] at h | rw [if_neg hb] at h | (simp only [hb, hT, reduceIte] at h) | skip
   refine AWp.exit ?_
   refine AWp.seq ?_
   refine AWp.region ?_
   refine L.Y Y.asg ?_
   refine AList.nil ?_
   obtain rfl := Option.some.inj h
   refine AWp.ret ?_
   exact ⟨.inr rfl, [(4, _)], _, ⟨rfl, rfl⟩, IsPart.at [] [] base0 .nil (E.c .nil)⟩

/-! ### laws_markIntS: function 15 -/
def laws_markIntS.l0 : Nat → List Int → Int → Int → Option (Int × List Int)
 | 0, _, _, _ => none
 | k + 1, x0, x1, x5 => if x5 < (x0.length : Int) then (if 0 ≤ x5 then (laws_markIntS.l0 k (x0.set (x5 : Int).toNat x1) (wrap64 (x1 + 1)) (wrap64 (x5 + 1))) else (none)) else (some (x1, x0))
def laws_markIntS.f (k : Nat) (l0 : List Int) (a1 : Int) : Option (Int × List Int) := laws_markIntS.l0 k l0 a1 0
theorem laws_markIntS.len_l : ∀ (k : Nat) (x0 : List Int) (x1 : Int) (x5 : Int) (r1 : Int) (r2 : List Int), laws_markIntS.l0 k x0 x1 x5 = some (r1, r2) → r2.length = x0.length := by
 intro k
 induction k with
 | zero => intro x0 x1 x5 r1 r2 h; simp [laws_markIntS.l0] at h
 | succ k ih =>
  intro x0 x1 x5 r1 r2 h
  simp only [laws_markIntS.l0] at h
  repeat' split at h
  all_goals first
   | (cases h; done)
   | (have := ih _ _ _ _ _ h; simpa only [List.length_set] using this)
   | (simp only [Option.some.injEq, Prod.mk.injEq] at h; obtain ⟨rfl, rfl⟩ := h; rfl)
theorem laws_markIntS.len (k : Nat) (l0 : List Int) (a1 : Int) (r1 : Int) (r2 : List Int) (h : laws_markIntS.f k l0 a1 = some (r1, r2)) : r2.length = l0.length := laws_markIntS.len_l _ _ _ _ _ _ h
set_option maxRecDepth 100000 in
set_option maxHeartbeats 20000000 in
theorem laws_markIntS.ac (k : Nat) (l0 : List Int) (a1 : Int) (r1 : Int) (r2 : List Int) (h : laws_markIntS.f k l0 a1 = some (r1, r2)) :
  ACalls Tryd.prog 15 [.own 0 l0.length, .lit (.int .i64 a1)] [.sl 3 1 l0.length false (ints .i64 l0)] (fun v H' => v = .lit (.int .i64 r1) ∧ H' = [.sl 3 1 r2.length false (ints .i64 r2)]) := by
 refine ACalls.ofP [4] Tryd.func15 rfl (by exact Nat.le_of_ble_eq_true rfl) rfl (by decide) ?_
 simp only [Tryd.ntmps15, env0, laws_markIntS.f] at h ⊢
 refine AWp.seq ?_
 refine AWp.region ?_
 refine L.Y Y.asg ?_
 refine AList.nil ?_
 refine AWp.seq ?_
 refine AWp.seq ?_
 refine AWp.region ?_
 refine L.Y Y.asg ?_
 refine AList.nil ?_
 refine AWp.block ?_
 refine AWp.loopI (fun kk e H => kk ≤ k ∧ ∃ (x0 : List Int) (x1 : Int) (x5 : Int), e = [(0, .own 0 x0.length), (1, .lit (.int .i64 x1)), (5, .lit (.int .i64 x5))] ∧ H = [.sl 3 1 x0.length false (ints .i64 x0)] ∧ laws_markIntS.l0 kk x0 x1 x5 = some (r1, r2)) (k := k)
  ⟨_, _, ⟨Nat.le_refl _, _, _, _, rfl, rfl, h⟩, IsPart.at [] [0] base1 (H.c .nil) (E.c (E.c (E.c .nil)))⟩ ?_
 clear h
 rintro k1 e H ⟨hk2, x0, x1, x5, rfl, rfl, h⟩
 cases k1 with
 | zero => exact absurd h (by simp [laws_markIntS.l0])
 | succ k1 =>
 simp only [laws_markIntS.l0] at h
 refine AWp.seq ?_
 refine AWp.seq ?_
 refine AWp.region ?_
 refine L.Y Y.mv ?_
 refine L.Y Y.mv ?_
 refine L.Y (Y.ln Tryd.underlying32) ?_
 refine L.Y Y.bin ?_
 refine AList.nil ?_
 refine W.cond (fun hb => ?_) (fun hb => ?_)
 ·
  have hb3 := hb
  try simp only [hS, hE, ne_eq] at hb
  first | rw [if_pos hb3] at h | rw [if_neg (Bool.eq_false_iff.1 hb3)] at h | rw [if_pos hb] at h | rw [if_neg hb] at h | (simp only [hb, hT, reduceIte] at h) | skip
  repeat (first | (rw [iN] at h; obtain ⟨_, h⟩ := h) | (rw [iP] at h; obtain ⟨_, h⟩ := h) | (simp only [bS] at h))
  refine AWp.skip ?_
  refine AWp.seq ?_
  refine AWp.block ?_
  refine AWp.seq ?_
  refine AWp.region ?_
  refine L.Y Y.mv ?_
  refine L.Y Y.mv ?_
  refine L.Y Y.mv ?_
  refine L.Y (Y.ixo Tryd.underlying32 Y3) ?_
  refine L.S (S.sts Y3) ?_
  refine AList.nil ?_
  refine W.kp [0, 1, 5, 9] ?_
  refine AWp.region ?_
  refine L.Y Y.mv ?_
  refine L.Y Y.bin ?_
  refine L.Y Y.asg ?_
  refine AList.nil ?_
  refine AWp.region ?_
  refine L.Y Y.mv ?_
  refine L.Y Y.bin ?_
  refine L.Y Y.asg ?_
  refine AList.nil ?_
  exact ⟨k1, by omega, _, _, ⟨by omega, _, _, _, rfl, rfl, h⟩, IsPart.at [] [0] base1 (H.c .nil) (E.c (E.c (E.c .nil)))⟩
 ·
  have hb3 := hb
  try simp only [hS, hE, ne_eq] at hb
  first | rw [if_pos hb3] at h | rw [if_neg (Bool.eq_false_iff.1 hb3)] at h | rw [if_pos hb] at h | rw [if_neg hb] at h | (simp only [hb, hT, reduceIte] at h) | skip
  refine AWp.exit ?_
  refine AWp.seq ?_
  refine AWp.region ?_
  refine L.Y Y.mv ?_
  refine L.Y Y.asg ?_
  refine AList.nil ?_
  simp only [Option.some.injEq, Prod.mk.injEq] at h
  obtain ⟨rfl, rfl⟩ := h
  refine AWp.ret ?_
  exact ⟨.inr rfl, [(4, _)], _, ⟨rfl, rfl⟩, IsPart.at [] [0] base1 (H.c .nil) (E.c .nil)⟩

/-! ### laws_markOrderS: function 7 -/
def laws_markOrderS.l0 : Nat → List S34 → Int → Int → Option (Int × List S34)
 | 0, _, _, _ => none
 | k + 1, x0, x1, x5 => if x5 < (x0.length : Int) then (if 0 ≤ x5 then ((laws_markIntS.f k (Enc.rd x0 x5).f1 (wrap64 (x1 + 1))).bind fun p => laws_markOrderS.l0 k (x0.set x5.toNat ⟨x1, p.2⟩) p.1 (wrap64 (x5 + 1))) else none) else some (x1, x0)
def laws_markOrderS.f (k : Nat) (l0 : List S34) (a1 : Int) : Option (Int × List S34) := laws_markOrderS.l0 k l0 a1 0
theorem laws_markOrderS.lenl : ∀ k x0 x1 x5 r1 r2, laws_markOrderS.l0 k x0 x1 x5 = some (r1, r2) → r2.length = x0.length
 | 0, _, _, _, _, _, h => by simp [laws_markOrderS.l0] at h
 | k + 1, x0, x1, x5, r1, r2, h => by
  unfold laws_markOrderS.l0 at h
  split at h
  ·
   split at h
   ·
    obtain ⟨p, _, h⟩ := Option.bind_eq_some_iff.1 h
    rw [laws_markOrderS.lenl k _ _ _ _ _ h, List.length_set]
   ·
    cases h
  ·
   cases h; rfl
theorem laws_markOrderS.len (k : Nat) (l0 : List S34) (a1 : Int) (r1 : Int) (r2 : List S34) (h : laws_markOrderS.f k l0 a1 = some (r1, r2)) : r2.length = l0.length := laws_markOrderS.lenl k l0 a1 0 r1 r2 h
theorem laws_markOrderS.Y34 : Ty Tryd.prog 34 2 32 (.agg #[.int .i64 0, .slice none 0 0]) := .of (by kernel_rfl)
theorem laws_markOrderS.Y3 : Ty Tryd.prog 3 1 8 (.int .i64 0) := .of (by kernel_rfl)
theorem laws_markOrderS.Y32 : Ty Tryd.prog 32 1 24 (.slice none 0 0) := .of (by kernel_rfl)
set_option maxRecDepth 100000 in
set_option maxHeartbeats 20000000 in
theorem laws_markOrderS.ac (k : Nat) (l0 : List S34) (a1 : Int) (r1 : Int) (r2 : List S34) (h : laws_markOrderS.f k l0 a1 = some (r1, r2)) :
  ACalls Tryd.prog 7 [.own 0 l0.length, .lit (.int .i64 a1)] [.dp 34 2 l0.length false (DE 3 l0)] (fun v H' => v = .lit (.int .i64 r1) ∧ H' = [.dp 34 2 r2.length false (DE 3 r2)]) := by
 refine ACalls.ofP [4] Tryd.func7 rfl (by exact Nat.le_of_ble_eq_true rfl) rfl (by decide) ?_
 simp only [Tryd.ntmps7, env0, laws_markOrderS.f] at h ⊢
 refine AWp.seq ?_
 refine AWp.region ?_
 refine L.Y Y.asg ?_
 refine AList.nil ?_
 refine AWp.seq ?_
 refine AWp.seq ?_
 refine AWp.region ?_
 refine L.Y Y.asg ?_
 refine AList.nil ?_
 refine AWp.block ?_
 refine AWp.loopI (fun kk e H => kk ≤ k ∧ ∃ (x0 : List S34) (x1 : Int) (x5 : Int), e = [(0, .own 0 x0.length), (1, .lit (.int .i64 x1)), (5, .lit (.int .i64 x5))] ∧ H = [.dp 34 2 x0.length false (DE 3 x0)] ∧ laws_markOrderS.l0 kk x0 x1 x5 = some (r1, r2)) (k := k)
  ⟨_, _, ⟨Nat.le_refl _, _, _, _, rfl, rfl, h⟩, IsPart.at [] [0] base1 (H.c .nil) (E.c (E.c (E.c .nil)))⟩ ?_
 clear h
 rintro k1 e H ⟨hk2, x0, x1, x5, rfl, rfl, h⟩
 cases k1 with
 | zero => exact absurd h (by simp [laws_markOrderS.l0])
 | succ k1 =>
 simp only [laws_markOrderS.l0] at h
 refine AWp.seq ?_
 refine AWp.seq ?_
 refine AWp.region ?_
 refine L.Y Y.mv ?_
 refine L.Y Y.mv ?_
 refine L.Y (Y.lnD Tryd.underlying22) ?_
 refine L.Y Y.bin ?_
 refine AList.nil ?_
 refine W.cond (fun hb => ?_) (fun hb => ?_)
 ·
  have hb1 := of_decide_eq_true hb
  rw [if_pos hb1] at h
  obtain ⟨h0, h⟩ := ite_some h
  obtain ⟨⟨t, r⟩, hc, h⟩ := Option.bind_eq_some_iff.1 h
  dsimp only at h
  have hl := laws_markIntS.len _ _ _ _ _ hc
  refine AWp.skip ?_
  refine AWp.seq ?_
  refine AWp.block ?_
  have hq1 : x5 < ((x0.length : Nat) : Int) := hb1
  refine AWp.seq ?_
  refine AWp.region ?_
  refine L.Y Y.mv ?_
  refine L.Y Y.mv ?_
  refine L.Y Y.mv ?_
  refine L.Y (Y.ixoD Tryd.underlying22 laws_markOrderS.Y34 h0 hb1) ?_
  refine L.Y (Y.fa (off := 0) Tryd.underlying34 laws_markOrderS.Y3) ?_
  refine L.S (S.stDE (xs := x0) (et' := 3) 0 (⟨x1, (Enc.rd x0 x5).f1⟩ : S34) laws_markOrderS.Y3 h0 (by simpa only [List.length_set] using hb1) (hE := by rfl) (hH' := by simp only [List.set_cons_zero, List.set_set]; exact rfl)) ?_
  refine AList.nil ?_
  refine AWp.seq ?_
  refine AWp.region ?_
  refine L.Y Y.mv ?_
  refine L.Y Y.bin ?_
  refine L.Y Y.asg ?_
  refine AList.nil ?_
  refine AWp.region ?_
  refine L.Y Y.mv ?_
  refine L.Y Y.mv ?_
  refine L.Y (Y.ixoD Tryd.underlying22 laws_markOrderS.Y34 h0 hb1) ?_
  refine L.Y (Y.fa (off := 1) Tryd.underlying34 laws_markOrderS.Y32) ?_
  refine L.tkE (xs := (x0.set x5.toNat ⟨x1, (Enc.rd x0 x5).f1⟩)) (et' := 3) (s' := 1) (m' := (Enc.rd x0 x5).f1.length) (cs := ints .i64 (Enc.rd x0 x5).f1) 0 1 h0 (by simpa only [List.length_set] using hb1) ?_ (hc := by rw [rd_set h0 hb1]; rfl)
  refine L.S (S.ldE Tryd.underlying32 (DE_lt (xs := (x0.set x5.toNat ⟨x1, (Enc.rd x0 x5).f1⟩)) (p := 1) h0 (by simpa only [List.length_set] using hb1) (by decide))) ?_
  refine L.Y Y.mv ?_
  refine L.C (C.callE (l := true) [1] Tryd.func15 (laws_markIntS.ac _ _ _ _ _ hc) (H.c .nil) ?_)
  refine L.Y Y.asg ?_
  refine L.gvE (xs := (x0.set x5.toNat ⟨x1, (Enc.rd x0 x5).f1⟩)) (et' := 3) (s' := 1) (m' := (Enc.rd x0 x5).f1.length) (nn' := false) (cs := ints .i64 r) 0 1 1 (⟨x1, r⟩ : S34) h0 (by simpa only [List.length_set] using hb1) ?_ (hj := by show some (AO.sl _ _ _ _ _) = _; rw [hl]) (hE := by rw [rd_set h0 hb1]; rw [← hl]; rfl) (hH' := by simp only [List.set_cons_zero, List.set_cons_succ, List.set_set]; exact rfl)
  refine AList.nil ?_
  refine AWp.region ?_
  refine L.Y Y.mv ?_
  refine L.Y Y.bin ?_
  refine L.Y Y.asg ?_
  refine AList.nil ?_
  exact ⟨k1, by omega, _, _, ⟨by omega, _, _, _, rfl, rfl, h⟩, IsPart.at [] [0] base1 (H.c .nil) (E.c (E.c (E.c .nil)))⟩
 ·
  have hb1 := of_decide_eq_false hb
  rw [if_neg hb1] at h
  simp only [Option.some.injEq, Prod.mk.injEq] at h
  obtain ⟨rfl, rfl⟩ := h
  refine AWp.exit ?_
  refine AWp.seq ?_
  refine AWp.region ?_
  refine L.Y Y.mv ?_
  refine L.Y Y.asg ?_
  refine AList.nil ?_
  refine AWp.ret ?_
  exact ⟨.inr rfl, [(4, _)], _, ⟨rfl, rfl⟩, IsPart.at [] [0] base1 (H.c .nil) (E.c .nil)⟩

/-! ### laws_heldIntS: function 16 -/
def laws_heldIntS.l0 : Nat → List Int → Int → Int → Option (Int)
 | 0, _, _, _ => none
 | k + 1, x0, x1, x5 => if x5 < (x0.length : Int) then (if 0 ≤ x5 then (if (rd x0 x5) = x1 then (laws_heldIntS.l0 k x0 (wrap64 (x1 + 1)) (wrap64 (x5 + 1))) else (some (-1))) else (none)) else (some x1)
def laws_heldIntS.f (k : Nat) (l0 : List Int) (a1 : Int) : Option (Int) := laws_heldIntS.l0 k l0 a1 0
set_option maxRecDepth 100000 in
set_option maxHeartbeats 20000000 in
theorem laws_heldIntS.ac (k : Nat) (l0 : List Int) (a1 : Int) (r : Int) (h : laws_heldIntS.f k l0 a1 = some r) :
  ACalls Tryd.prog 16 [.row 1 l0.length false (ints .i64 l0), .lit (.int .i64 a1)] [] (fun v H' => v = .lit (.int .i64 r) ∧ H' = []) := by
 refine ACalls.ofP [4] Tryd.func16 rfl (by exact Nat.le_of_ble_eq_true rfl) rfl (by decide) ?_
 simp only [Tryd.ntmps16, env0, laws_heldIntS.f] at h ⊢
 refine AWp.seq ?_
 refine AWp.region ?_
 refine L.Y Y.asg ?_
 refine AList.nil ?_
 refine AWp.seq ?_
 refine AWp.seq ?_
 refine AWp.region ?_
 refine L.Y Y.asg ?_
 refine AList.nil ?_
 refine AWp.block ?_
 refine AWp.loopI (fun kk e H => kk ≤ k ∧ ∃ (x1 : Int) (x5 : Int), e = [(0, .row 1 l0.length false (ints .i64 l0)), (1, .lit (.int .i64 x1)), (5, .lit (.int .i64 x5))] ∧ H = [] ∧ laws_heldIntS.l0 kk l0 x1 x5 = some r) (k := k)
  ⟨_, _, ⟨Nat.le_refl _, _, _, rfl, rfl, h⟩, IsPart.at [] [] base0 .nil (E.c (E.c (E.c .nil)))⟩ ?_
 clear h
 rintro k1 e H ⟨hk2, x1, x5, rfl, rfl, h⟩
 cases k1 with
 | zero => exact absurd h (by simp [laws_heldIntS.l0])
 | succ k1 =>
 simp only [laws_heldIntS.l0] at h
 refine AWp.seq ?_
 refine AWp.seq ?_
 refine AWp.region ?_
 refine L.Y Y.mv ?_
 refine L.Y Y.mv ?_
 refine L.Y (Y.ln Tryd.underlying32) ?_
 refine L.Y Y.bin ?_
 refine AList.nil ?_
 refine W.cond (fun hb => ?_) (fun hb => ?_)
 ·
  have hb3 := hb
  try simp only [hS, hE, ne_eq] at hb
  first | rw [if_pos hb3] at h | rw [if_neg (Bool.eq_false_iff.1 hb3)] at h | rw [if_pos hb] at h | rw [if_neg hb] at h | (simp only [hb, hT, reduceIte] at h) | skip
  repeat (first | (rw [iN] at h; obtain ⟨_, h⟩ := h) | (rw [iP] at h; obtain ⟨_, h⟩ := h) | (simp only [bS] at h))
  refine AWp.skip ?_
  refine AWp.seq ?_
  refine AWp.block ?_
  refine AWp.seq ?_
  refine AWp.seq ?_
  refine AWp.region ?_
  refine L.Y Y.mv ?_
  refine L.Y Y.mv ?_
  refine L.Y (Y.ixr Tryd.underlying32 Y3) ?_
  refine L.S (S.ld Tryd.underlying3) ?_
  refine L.Y Y.mv ?_
  refine L.Y Y.bin ?_
  refine AList.nil ?_
  refine W.cond (fun hb => ?_) (fun hb => ?_)
  ·
   have hb4 := hb
   try simp only [hS, hE, ne_eq] at hb
   first | rw [if_pos hb4] at h | rw [if_neg (Bool.eq_false_iff.1 hb4)] at h | rw [if_pos hb] at h | rw [if_neg hb] at h | (simp only [hb, hT, reduceIte] at h) | skip
   refine AWp.seq ?_
   refine W.kp [0, 1, 5, 9, 17] ?_
   refine AWp.region ?_
   refine L.Y Y.asg ?_
   refine AList.nil ?_
   obtain rfl := Option.some.inj h
   refine AWp.ret ?_
   exact ⟨.inr rfl, [(4, _)], _, ⟨rfl, rfl⟩, IsPart.at [] [] base0 .nil (E.c .nil)⟩
  ·
   have hb4 := hb
   try simp only [hS, hE, ne_eq] at hb
   first | rw [if_pos hb4] at h | rw [if_neg (Bool.eq_false_iff.1 hb4)] at h | rw [if_pos hb] at h | rw [if_neg hb] at h | (simp only [hb, hT, reduceIte] at h) | skip
   refine AWp.skip ?_
   refine W.kp [0, 1, 5, 9, 17] ?_
   refine AWp.region ?_
   refine L.Y Y.mv ?_
   refine L.Y Y.bin ?_
   refine L.Y Y.asg ?_
   refine AList.nil ?_
   refine AWp.region ?_
   refine L.Y Y.mv ?_
   refine L.Y Y.bin ?_
   refine L.Y Y.asg ?_
   refine AList.nil ?_
   exact ⟨k1, by omega, _, _, ⟨by omega, _, _, rfl, rfl, h⟩, IsPart.at [] [] base0 .nil (E.c (E.c (E.c .nil)))⟩
 ·
  have hb3 := hb
  try simp only [hS, hE, ne_eq] at hb
  first | rw [if_pos hb3] at h | rw [if_neg (Bool.eq_false_iff.1 hb3)] at h | rw [if_pos hb] at h | rw [if_neg hb] at h | (simp only [hb, hT, reduceIte] at h) | skip
  refine AWp.exit ?_
  refine AWp.seq ?_
  refine AWp.region ?_
  refine L.Y Y.mv ?_
  refine L.Y Y.asg ?_
  refine AList.nil ?_
  obtain rfl := Option.some.inj h
  refine AWp.ret ?_
  exact ⟨.inr rfl, [(4, _)], _, ⟨rfl, rfl⟩, IsPart.at [] [] base0 .nil (E.c .nil)⟩

/-! ### laws_heldOrderS: function 8 -/
def laws_heldOrderS.l0 : Nat → List (S34) → Int → Int → Option (Int)
 | 0, _, _, _ => none
 | k + 1, x0, x1, x5 => if x5 < (x0.length : Int) then (if 0 ≤ x5 then (if ((Enc.rd x0 x5).f0) = x1 then ((laws_heldIntS.f k ((Enc.rd x0 x5).f1) (wrap64 (x1 + 1))).bind fun t373 => (if t373 < 0 then (some (-1)) else (laws_heldOrderS.l0 k x0 t373 (wrap64 (x5 + 1))))) else (some (-1))) else (none)) else (some x1)
def laws_heldOrderS.f (k : Nat) (l0 : List (S34)) (a1 : Int) : Option (Int) := laws_heldOrderS.l0 k l0 a1 0
set_option maxRecDepth 100000 in
set_option maxHeartbeats 20000000 in
theorem laws_heldOrderS.ac (k : Nat) (l0 : List (S34)) (a1 : Int) (r : Int) (h : laws_heldOrderS.f k l0 a1 = some r) :
  ACalls Tryd.prog 8 [.row 2 l0.length false (Enc.cells l0), .lit (.int .i64 a1)] [] (fun v H' => v = .lit (.int .i64 r) ∧ H' = []) := by
 refine ACalls.ofP [4] Tryd.func8 rfl (by exact Nat.le_of_ble_eq_true rfl) rfl (by decide) ?_
 simp only [Tryd.ntmps8, env0, laws_heldOrderS.f] at h ⊢
 refine AWp.seq ?_
 refine AWp.region ?_
 refine L.Y Y.asg ?_
 refine AList.nil ?_
 refine AWp.seq ?_
 refine AWp.seq ?_
 refine AWp.region ?_
 refine L.Y Y.asg ?_
 refine AList.nil ?_
 refine AWp.block ?_
 refine AWp.loopI (fun kk e H => kk ≤ k ∧ ∃ (x1 : Int) (x5 : Int), e = [(0, .row 2 l0.length false (Enc.cells l0)), (1, .lit (.int .i64 x1)), (5, .lit (.int .i64 x5))] ∧ H = [] ∧ laws_heldOrderS.l0 kk l0 x1 x5 = some r) (k := k)
  ⟨_, _, ⟨Nat.le_refl _, _, _, rfl, rfl, h⟩, IsPart.at [] [] base0 .nil (E.c (E.c (E.c .nil)))⟩ ?_
 clear h
 rintro k1 e H ⟨hk2, x1, x5, rfl, rfl, h⟩
 cases k1 with
 | zero => exact absurd h (by simp [laws_heldOrderS.l0])
 | succ k1 =>
 simp only [laws_heldOrderS.l0] at h
 refine AWp.seq ?_
 refine AWp.seq ?_
 refine AWp.region ?_
 refine L.Y Y.mv ?_
 refine L.Y Y.mv ?_
 refine L.Y (Y.ln Tryd.underlying22) ?_
 refine L.Y Y.bin ?_
 refine AList.nil ?_
 refine W.cond (fun hb => ?_) (fun hb => ?_)
 ·
  have hb3 := hb
  try simp only [hS, hE, ne_eq] at hb
  first | rw [if_pos hb3] at h | rw [if_neg (Bool.eq_false_iff.1 hb3)] at h | rw [if_pos hb] at h | rw [if_neg hb] at h | (simp only [hb, hT, reduceIte] at h) | skip
  repeat (first | (rw [iN] at h; obtain ⟨_, h⟩ := h) | (rw [iP] at h; obtain ⟨_, h⟩ := h) | (simp only [bS] at h))
  refine AWp.skip ?_
  refine AWp.seq ?_
  refine AWp.block ?_
  refine AWp.seq ?_
  refine AWp.seq ?_
  refine AWp.region ?_
  refine L.Y Y.mv ?_
  refine L.Y Y.mv ?_
  refine L.Y (Y.ixrT Tryd.underlying22 Y34 en_T34) ?_
  refine L.Y (Y.fa (off := 0) Tryd.underlying34 Y3) ?_
  refine L.S (S.ld Tryd.underlying3) ?_
  refine L.Y Y.mv ?_
  refine L.Y Y.bin ?_
  refine AList.nil ?_
  refine W.cond (fun hb => ?_) (fun hb => ?_)
  ·
   have hb4 := hb
   try simp only [hS, hE, ne_eq] at hb
   first | rw [if_pos hb4] at h | rw [if_neg (Bool.eq_false_iff.1 hb4)] at h | rw [if_pos hb] at h | rw [if_neg hb] at h | (simp only [hb, hT, reduceIte] at h) | skip
   refine AWp.seq ?_
   refine W.kp [0, 1, 5, 9, 18] ?_
   refine AWp.region ?_
   refine L.Y Y.asg ?_
   refine AList.nil ?_
   obtain rfl := Option.some.inj h
   refine AWp.ret ?_
   exact ⟨.inr rfl, [(4, _)], _, ⟨rfl, rfl⟩, IsPart.at [] [] base0 .nil (E.c .nil)⟩
  ·
   have hb4 := hb
   try simp only [hS, hE, ne_eq] at hb
   first | rw [if_pos hb4] at h | rw [if_neg (Bool.eq_false_iff.1 hb4)] at h | rw [if_pos hb] at h | rw [if_neg hb] at h | (simp only [hb, hT, reduceIte] at h) | skip
   refine AWp.skip ?_
   refine AWp.seq ?_
   refine W.kp [0, 1, 5, 9, 18] ?_
   refine AWp.region ?_
   refine L.Y Y.mv ?_
   refine L.Y Y.bin ?_
   refine L.Y Y.asg ?_
   refine AList.nil ?_
   refine AWp.seq ?_
   refine AWp.region ?_
   refine L.Y Y.mv ?_
   refine L.Y Y.mv ?_
   refine L.Y (Y.ixrT Tryd.underlying22 Y34 en_T34) ?_
   refine L.Y (Y.fa (off := 1) Tryd.underlying34 Y32) ?_
   refine L.S (S.ld Tryd.underlying32) ?_
   refine L.Y Y.mv ?_
   replace h := Option.bind_eq_some_iff.1 h
   obtain ⟨t373, hc5, h⟩ := h
   refine L.C (C.callE (l := true) [] Tryd.func16 (laws_heldIntS.ac _ _ _ _ hc5) .nil ?_)
   refine L.Y Y.asg ?_
   refine AList.nil ?_
   refine AWp.seq ?_
   refine W.kp [0, 1, 5, 9, 18] ?_
   refine AWp.region ?_
   refine L.Y Y.mv ?_
   refine L.Y Y.bin ?_
   refine AList.nil ?_
   refine W.cond (fun hb => ?_) (fun hb => ?_)
   ·
    have hb6 := hb
    try simp only [hS, hE, ne_eq] at hb
    first | rw [if_pos hb6] at h | rw [if_neg (Bool.eq_false_iff.1 hb6)] at h | rw [if_pos hb] at h | rw [if_neg hb] at h | (simp only [hb, hT, reduceIte] at h) | skip
    refine AWp.seq ?_
    refine AWp.region ?_
    refine L.Y Y.asg ?_
    refine AList.nil ?_
    obtain rfl := Option.some.inj h
    refine AWp.ret ?_
    exact ⟨.inr rfl, [(4, _)], _, ⟨rfl, rfl⟩, IsPart.at [] [] base0 .nil (E.c .nil)⟩
   ·
    have hb6 := hb
    try simp only [hS, hE, ne_eq] at hb
    first | rw [if_pos hb6] at h | rw [if_neg (Bool.eq_false_iff.1 hb6)] at h | rw [if_pos hb] at h | rw [if_neg hb] at h | (simp only [hb, hT, reduceIte] at h) | skip
    refine AWp.skip ?_
    refine AWp.region ?_
    refine L.Y Y.mv ?_
    refine L.Y Y.bin ?_
    refine L.Y Y.asg ?_
    refine AList.nil ?_
    exact ⟨k1, by omega, _, _, ⟨by omega, _, _, rfl, rfl, h⟩, IsPart.at [] [] base0 .nil (E.c (E.c (E.c .nil)))⟩
 ·
  have hb3 := hb
  try simp only [hS, hE, ne_eq] at hb
  first | rw [if_pos hb3] at h | rw [if_neg (Bool.eq_false_iff.1 hb3)] at h | rw [if_pos hb] at h | rw [if_neg hb] at h | (simp only [hb, hT, reduceIte] at h) | skip
  refine AWp.exit ?_
  refine AWp.seq ?_
  refine AWp.region ?_
  refine L.Y Y.mv ?_
  refine L.Y Y.asg ?_
  refine AList.nil ?_
  obtain rfl := Option.some.inj h
  refine AWp.ret ?_
  exact ⟨.inr rfl, [(4, _)], _, ⟨rfl, rfl⟩, IsPart.at [] [] base0 .nil (E.c .nil)⟩

end Go.Proofs.YtikboghjlpppjaaDoor.PFnExactOrdersOf
