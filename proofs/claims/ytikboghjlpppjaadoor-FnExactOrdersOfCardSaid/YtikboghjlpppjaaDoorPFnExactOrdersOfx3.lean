-- Written by a program of this session's (wip/myprint2): the functions by the kit's print, the walks by awgen.py. Lean checks it.
import Derived.Test.YtikboghjlpppjaaDoorPFnExactOrdersOfx0
import Derived.Test.YtikboghjlpppjaaDoorPFnExactOrdersOfx1
import Derived.Test.YtikboghjlpppjaaDoorPFnExactOrdersOfx2
namespace Go.Proofs.YtikboghjlpppjaaDoor.PFnExactOrdersOf
open Go.RowKit Go.Proofs.YtikboghjlpppjaaDoorW.PrintWords Go.Proofs.YtikboghjlpppjaaDoorW.PrintLast Go.Proofs.YtikboghjlpppjaaDoorW.PrintMore Go.Proofs.YtikboghjlpppjaaDoorM Go.Proofs.YtikboghjlpppjaaDoorA Go.Proofs.YtikboghjlpppjaaDoorT
attribute [local go_sem] max2_int min2_int max_two min_two max_three min_three max_four min_four   -- for this text's walks alone
set_option linter.unusedVariables false
set_option linter.unusedSimpArgs false

/-! ### spec_ThreeOneOf: function 35 -/
mutual
def spec_ThreeOneOf.l0 : Nat → Int → Int → List Int → Option (List Int × Bool)
 | 0, _, _, _ => none
 | k + 1, x4, x172000, x172001 => if x4 < x172000 then (if 0 ≤ x4 then (if x4 < (x172001.length : Int) then ((spec_orList.f k (rd x172001 x4)).bind fun t174 => (spec_ThreeOneOf.l1 k x4 t174 (t174.length : Int) 0 x172000 x172001)) else (none)) else (none)) else (some (([] : List Int), false))
def spec_ThreeOneOf.l1 : Nat → Int → List Int → Int → Int → Int → List Int → Option (List Int × Bool)
 | 0, _, _, _, _, _, _ => none
 | k + 1, x4, x25, x26, x27, x172000, x172001 => if x27 < x26 then (if 0 ≤ x27 then (if x27 < (x25.length : Int) then (if 0 ≤ (rd x25 x27) then (if (rd x25 x27) < (x172001.length : Int) then ((spec_orList.f k (rd x172001 (rd x25 x27))).bind fun t179 => (spec_ThreeOneOf.l2 k x4 (rd x25 x27) x25 x26 x27 t179 (t179.length : Int) 0 x172000 x172001)) else (none)) else (none)) else (none)) else (none)) else (spec_ThreeOneOf.l0 k (wrap64 (x4 + 1)) x172000 x172001)
def spec_ThreeOneOf.l2 : Nat → Int → Int → List Int → Int → Int → List Int → Int → Int → Int → List Int → Option (List Int × Bool)
 | 0, _, _, _, _, _, _, _, _, _, _ => none
 | k + 1, x4, x6, x25, x26, x27, x36, x37, x38, x172000, x172001 => if x38 < x37 then (if 0 ≤ x38 then (if x38 < (x36.length : Int) then ((spec_orFree.f k x172000 x172001 x4).bind fun t183 => ((spec_orFree.f k x172000 x172001 x6).bind fun t184 => ((spec_orFree.f k x172000 x172001 (rd x36 x38)).bind fun t185 => ((spec_orList.f k (Go.bits .and .i64 (Go.bits .and .i64 t183 t184) t185)).bind fun t186 => (spec_ThreeOneOf.l3 k x4 x6 (rd x36 x38) x25 x26 x27 x36 x37 x38 t186 (t186.length : Int) 0 x172000 x172001))))) else (none)) else (none)) else (spec_ThreeOneOf.l1 k x4 x25 x26 (wrap64 (x27 + 1)) x172000 x172001)
def spec_ThreeOneOf.l3 : Nat → Int → Int → Int → List Int → Int → Int → List Int → Int → Int → List Int → Int → Int → Int → List Int → Option (List Int × Bool)
 | 0, _, _, _, _, _, _, _, _, _, _, _, _, _, _ => none
 | k + 1, x4, x6, x8, x25, x26, x27, x36, x37, x38, x53, x54, x55, x172000, x172001 => if x55 < x54 then (if 0 ≤ x55 then (if x55 < (x53.length : Int) then (some ((([x4, x6, x8, rd x53 x55] : List Int)), true)) else (none)) else (none)) else (spec_ThreeOneOf.l2 k x4 x6 x25 x26 x27 x36 x37 (wrap64 (x38 + 1)) x172000 x172001)
end
def spec_ThreeOneOf.f (k : Nat) (a0_0 : Int) (l0_1 : List Int) : Option (List Int × Bool) := (spec_orGood.f k a0_0 l0_1).bind fun t172 => (if t172 = true then (spec_ThreeOneOf.l0 k 0 a0_0 l0_1) else (some (([] : List Int), false)))
set_option maxRecDepth 100000 in
set_option maxHeartbeats 20000000 in
theorem spec_ThreeOneOf.ac (k : Nat) (a0_0 : Int) (l0_1 : List Int) (r1 : List Int) (r2 : Bool) (h : spec_ThreeOneOf.f k a0_0 l0_1 = some (r1, r2)) :
  ACalls Tryd.prog 35 [.agg [.lit (.int .i64 a0_0), .row 1 l0_1.length false (ints .i64 l0_1)]] [] (fun v H' => v = .tup [.own 0 r1.length, .lit (.bool r2)] ∧ H' = [.sl 3 1 r1.length false (ints .i64 r1)]) := by
 refine ACalls.ofP [2, 3] Tryd.func35 rfl (by exact Nat.le_of_ble_eq_true rfl) rfl (by decide) ?_
 simp only [Tryd.ntmps35, env0, spec_ThreeOneOf.f] at h ⊢
 refine AWp.seq ?_
 refine AWp.region ?_
 refine L.M M.bx ?_
 refine L.Y Y.asg ?_
 refine L.Y Y.asg ?_
 refine AList.nil ?_
 refine AWp.seq ?_
 refine AWp.seq ?_
 refine AWp.region ?_
 refine L.S (S.ldN Tryd.underlying34 Y34) ?_
 replace h := Option.bind_eq_some_iff.1 h
 obtain ⟨t172, hc1, h⟩ := h
 refine L.C (C.callE (l := true) [] Tryd.func28 (spec_orGood.ac _ _ _ _ hc1) .nil ?_)
 refine L.Y Y.nt ?_
 refine AList.nil ?_
 refine W.cond (fun hb => ?_) (fun hb => ?_)
 ·
  have hb2 := hb
  try simp only [hS, hE, ne_eq] at hb
  first | rw [if_pos hb2] at h | rw [if_neg (Bool.eq_false_iff.1 hb2)] at h | rw [if_pos hb] at h | rw [if_neg hb] at h | (simp only [hb, hT, reduceIte] at h) | skip
  refine AWp.seq ?_
  refine AWp.region ?_
  refine L.Y Y.asg ?_
  refine L.Y Y.asg ?_
  refine AList.nil ?_
  simp only [Option.some.injEq, Prod.mk.injEq] at h
  obtain ⟨rfl, rfl⟩ := h
  refine AWp.ret ?_
  exact ⟨.inr rfl, [(2, _), (3, _)], _, ⟨rfl, rfl⟩, IsPart.at [(3, 1)] [1] base0 (H.c .nil) (E.c (E.c .nil))⟩
 ·
  have hb2 := hb
  try simp only [hS, hE, ne_eq] at hb
  first | rw [if_pos hb2] at h | rw [if_neg (Bool.eq_false_iff.1 hb2)] at h | rw [if_pos hb] at h | rw [if_neg hb] at h | (simp only [hb, hT, reduceIte] at h) | skip
  refine AWp.skip ?_
  refine AWp.seq ?_
  refine AWp.seq ?_
  refine AWp.region ?_
  refine L.Y Y.asg ?_
  refine AList.nil ?_
  refine AWp.block ?_
  refine AWp.loopI (fun kk e H => kk ≤ k ∧ ∃ (x4 : Int) (x172000 : Int), e = [(1, .ptr 0 0), (4, .lit (.int .i64 x4))] ∧ H = [.bx 34 [.lit (.int .i64 x172000), .row 1 l0_1.length false (ints .i64 l0_1)]] ∧ spec_ThreeOneOf.l0 kk x4 x172000 l0_1 = some (r1, r2)) (k := k)
   ⟨_, _, ⟨Nat.le_refl _, _, _, rfl, rfl, h⟩, IsPart.at [] [0] base0 (H.c .nil) (E.c (E.c .nil))⟩ ?_
  clear h
  rintro k3 e H ⟨hk4, x4, x172000, rfl, rfl, h⟩
  cases k3 with
  | zero => exact absurd h (by simp [spec_ThreeOneOf.l0])
  | succ k3 =>
  simp only [spec_ThreeOneOf.l0] at h
  refine AWp.seq ?_
  refine AWp.seq ?_
  refine AWp.region ?_
  refine L.Y Y.mv ?_
  refine L.Y (Y.fa (off := 0) Tryd.underlying34 Y3) ?_
  refine L.S (S.ld Tryd.underlying3) ?_
  refine L.Y Y.bin ?_
  refine AList.nil ?_
  refine W.cond (fun hb => ?_) (fun hb => ?_)
  ·
   have hb5 := hb
   try simp only [hS, hE, ne_eq] at hb
   first | rw [if_pos hb5] at h | rw [if_neg (Bool.eq_false_iff.1 hb5)] at h | rw [if_pos hb] at h | rw [if_neg hb] at h | (simp only [hb, hT, reduceIte] at h) | skip
   repeat (first | (rw [iN] at h; obtain ⟨_, h⟩ := h) | (rw [iP] at h; obtain ⟨_, h⟩ := h) | (simp only [bS] at h))
   refine AWp.skip ?_
   refine AWp.seq ?_
   refine AWp.block ?_
   refine AWp.seq ?_
   refine AWp.region ?_
   refine L.Y (Y.fa (off := 1) Tryd.underlying34 Y32) ?_
   refine L.S (S.ld Tryd.underlying32) ?_
   refine L.Y Y.mv ?_
   refine L.Y (Y.ixr Tryd.underlying32 Y3) ?_
   refine L.S (S.ld Tryd.underlying3) ?_
   replace h := Option.bind_eq_some_iff.1 h
   obtain ⟨t174, hc6, h⟩ := h
   refine L.C (C.callE (l := true) [] Tryd.func37 (spec_orList.ac _ _ _ hc6) .nil ?_)
   refine L.Y (Y.ln Tryd.underlying32) ?_
   refine L.Y Y.mv ?_
   refine AList.nil ?_
   refine AWp.block ?_
   refine AWp.loopI (fun kk e H => kk ≤ k3 ∧ ∃ (x4 : Int) (x25 : List Int) (x26 : Int) (x27 : Int) (x172000 : Int), e = [(1, .ptr 0 0), (4, .lit (.int .i64 x4)), (25, .own 1 x25.length), (26, .lit (.int .i64 x26)), (27, .lit (.int .i64 x27))] ∧ H = [.bx 34 [.lit (.int .i64 x172000), .row 1 l0_1.length false (ints .i64 l0_1)], .sl 3 1 x25.length false (ints .i64 x25)] ∧ spec_ThreeOneOf.l1 kk x4 x25 x26 x27 x172000 l0_1 = some (r1, r2)) (k := k3)
    ⟨_, _, ⟨Nat.le_refl _, _, _, _, _, _, rfl, rfl, h⟩, IsPart.at [] [0, 1] base0 (H.c (H.c .nil)) (E.c (E.c (E.c (E.c (E.c .nil)))))⟩ ?_
   clear h
   rintro k7 e H ⟨hk8, x4, x25, x26, x27, x172000, rfl, rfl, h⟩
   cases k7 with
   | zero => exact absurd h (by simp [spec_ThreeOneOf.l1])
   | succ k7 =>
   simp only [spec_ThreeOneOf.l1] at h
   refine AWp.seq ?_
   refine AWp.region ?_
   refine L.Y Y.bin ?_
   refine AList.nil ?_
   refine AWp.seq ?_
   refine W.cond (fun hb => ?_) (fun hb => ?_)
   ·
    have hb9 := hb
    try simp only [hS, hE, ne_eq] at hb
    first | rw [if_pos hb9] at h | rw [if_neg (Bool.eq_false_iff.1 hb9)] at h | rw [if_pos hb] at h | rw [if_neg hb] at h | (simp only [hb, hT, reduceIte] at h) | skip
    repeat (first | (rw [iN] at h; obtain ⟨_, h⟩ := h) | (rw [iP] at h; obtain ⟨_, h⟩ := h) | (simp only [bS] at h))
    refine AWp.skip ?_
    refine AWp.seq ?_
    refine AWp.block ?_
    refine AWp.seq ?_
    refine AWp.region ?_
    refine L.Y (Y.ixo Tryd.underlying32 Y3) ?_
    refine L.S (S.ld Tryd.underlying3) ?_
    refine L.Y Y.asg ?_
    refine AList.nil ?_
    refine AWp.seq ?_
    refine AWp.region ?_
    refine L.Y (Y.fa (off := 1) Tryd.underlying34 Y32) ?_
    refine L.S (S.ld Tryd.underlying32) ?_
    refine L.Y Y.mv ?_
    refine L.Y (Y.ixr Tryd.underlying32 Y3) ?_
    refine L.S (S.ld Tryd.underlying3) ?_
    replace h := Option.bind_eq_some_iff.1 h
    obtain ⟨t179, hc10, h⟩ := h
    refine L.C (C.callE (l := true) [] Tryd.func37 (spec_orList.ac _ _ _ hc10) .nil ?_)
    refine L.Y (Y.ln Tryd.underlying32) ?_
    refine L.Y Y.mv ?_
    refine AList.nil ?_
    refine AWp.block ?_
    refine AWp.loopI (fun kk e H => kk ≤ k7 ∧ ∃ (x4 : Int) (x6 : Int) (x25 : List Int) (x26 : Int) (x27 : Int) (x36 : List Int) (x37 : Int) (x38 : Int) (x172000 : Int), e = [(1, .ptr 0 0), (4, .lit (.int .i64 x4)), (6, .lit (.int .i64 x6)), (25, .own 1 x25.length), (26, .lit (.int .i64 x26)), (27, .lit (.int .i64 x27)), (36, .own 2 x36.length), (37, .lit (.int .i64 x37)), (38, .lit (.int .i64 x38))] ∧ H = [.bx 34 [.lit (.int .i64 x172000), .row 1 l0_1.length false (ints .i64 l0_1)], .sl 3 1 x25.length false (ints .i64 x25), .sl 3 1 x36.length false (ints .i64 x36)] ∧ spec_ThreeOneOf.l2 kk x4 x6 x25 x26 x27 x36 x37 x38 x172000 l0_1 = some (r1, r2)) (k := k7)
     ⟨_, _, ⟨Nat.le_refl _, _, _, _, _, _, _, _, _, _, rfl, rfl, h⟩, IsPart.at [] [0, 1, 2] base0 (H.c (H.c (H.c .nil))) (E.c (E.c (E.c (E.c (E.c (E.c (E.c (E.c (E.c .nil)))))))))⟩ ?_
    clear h
    rintro k11 e H ⟨hk12, x4, x6, x25, x26, x27, x36, x37, x38, x172000, rfl, rfl, h⟩
    cases k11 with
    | zero => exact absurd h (by simp [spec_ThreeOneOf.l2])
    | succ k11 =>
    simp only [spec_ThreeOneOf.l2] at h
    refine AWp.seq ?_
    refine AWp.region ?_
    refine L.Y Y.bin ?_
    refine AList.nil ?_
    refine AWp.seq ?_
    refine W.cond (fun hb => ?_) (fun hb => ?_)
    ·
     have hb13 := hb
     try simp only [hS, hE, ne_eq] at hb
     first | rw [if_pos hb13] at h | rw [if_neg (Bool.eq_false_iff.1 hb13)] at h | rw [if_pos hb] at h | rw [if_neg hb] at h | (simp only [hb, hT, reduceIte] at h) | skip
     repeat (first | (rw [iN] at h; obtain ⟨_, h⟩ := h) | (rw [iP] at h; obtain ⟨_, h⟩ := h) | (simp only [bS] at h))
     refine AWp.skip ?_
     refine AWp.seq ?_
     refine AWp.block ?_
     refine AWp.seq ?_
     refine AWp.region ?_
     refine L.Y (Y.ixo Tryd.underlying32 Y3) ?_
     refine L.S (S.ld Tryd.underlying3) ?_
     refine L.Y Y.asg ?_
     refine AList.nil ?_
     refine AWp.seq ?_
     refine Dt.reg [] [] (.t 0 (.y 1 (.t 3 (.y 4 (.t 7 (.y 8 (.y 13 (.one 2 (.one 5 (.y 6 (.one 9 (.y 10 (.one 11 (.y 12 .done)))))))))))))) HM ?_
     refine Dt.T rfl wantN (D.ldN Tryd.underlying34 Y34) ?_
     refine Dt.Y rfl wantN Y.mv ?_
     refine Dt.T rfl wantN (D.ldN Tryd.underlying34 Y34) ?_
     refine Dt.Y rfl wantN Y.mv ?_
     refine Dt.T rfl wantN (D.ldN Tryd.underlying34 Y34) ?_
     refine Dt.Y rfl wantN Y.mv ?_
     refine Dt.Y rfl wantN Y.mv ?_
     refine Dt.O (g' := false) rfl wantN ?_
     replace h := Option.bind_eq_some_iff.1 h
     obtain ⟨t183, hc14, h⟩ := h
     refine Ox.C true [] Tryd.func45 (spec_orFree.ac _ _ _ _ _ hc14) .nil ?_
     refine Dt.O (g' := false) rfl wantN ?_
     replace h := Option.bind_eq_some_iff.1 h
     obtain ⟨t184, hc15, h⟩ := h
     refine Ox.C true [] Tryd.func45 (spec_orFree.ac _ _ _ _ _ hc15) .nil ?_
     refine Dt.Y rfl wantN Y.bin ?_
     refine Dt.O (g' := false) rfl wantN ?_
     replace h := Option.bind_eq_some_iff.1 h
     obtain ⟨t185, hc16, h⟩ := h
     refine Ox.C true [] Tryd.func45 (spec_orFree.ac _ _ _ _ _ hc16) .nil ?_
     refine Dt.Y rfl wantN Y.bin ?_
     refine Dt.O (g' := false) rfl wantN ?_
     replace h := Option.bind_eq_some_iff.1 h
     obtain ⟨t186, hc17, h⟩ := h
     refine Ox.C true [] Tryd.func37 (spec_orList.ac _ _ _ hc17) .nil ?_
     refine Dt.Y rfl wantN (Y.ln Tryd.underlying32) ?_
     refine Dt.nil ?_
     refine AWp.block ?_
     refine AWp.loopI (fun kk e H => kk ≤ k11 ∧ ∃ (x4 : Int) (x6 : Int) (x8 : Int) (x25 : List Int) (x26 : Int) (x27 : Int) (x36 : List Int) (x37 : Int) (x38 : Int) (x53 : List Int) (x54 : Int) (x55 : Int) (x172000 : Int), e = [(1, .ptr 0 0), (4, .lit (.int .i64 x4)), (6, .lit (.int .i64 x6)), (8, .lit (.int .i64 x8)), (25, .own 1 x25.length), (26, .lit (.int .i64 x26)), (27, .lit (.int .i64 x27)), (36, .own 2 x36.length), (37, .lit (.int .i64 x37)), (38, .lit (.int .i64 x38)), (53, .own 3 x53.length), (54, .lit (.int .i64 x54)), (55, .lit (.int .i64 x55))] ∧ H = [.bx 34 [.lit (.int .i64 x172000), .row 1 l0_1.length false (ints .i64 l0_1)], .sl 3 1 x25.length false (ints .i64 x25), .sl 3 1 x36.length false (ints .i64 x36), .sl 3 1 x53.length false (ints .i64 x53)] ∧ spec_ThreeOneOf.l3 kk x4 x6 x8 x25 x26 x27 x36 x37 x38 x53 x54 x55 x172000 l0_1 = some (r1, r2)) (k := k11)
      ⟨_, _, ⟨Nat.le_refl _, _, _, _, _, _, _, _, _, _, _, _, _, _, rfl, rfl, h⟩, IsPart.at [] [0, 1, 2, 3] base0 (H.c (H.c (H.c (H.c .nil)))) (E.c (E.c (E.c (E.c (E.c (E.c (E.c (E.c (E.c (E.c (E.c (E.c (E.c .nil)))))))))))))⟩ ?_
     clear h
     rintro k18 e H ⟨hk19, x4, x6, x8, x25, x26, x27, x36, x37, x38, x53, x54, x55, x172000, rfl, rfl, h⟩
     cases k18 with
     | zero => exact absurd h (by simp [spec_ThreeOneOf.l3])
     | succ k18 =>
     simp only [spec_ThreeOneOf.l3] at h
     refine AWp.seq ?_
     refine AWp.region ?_
     refine L.Y Y.bin ?_
     refine AList.nil ?_
     refine AWp.seq ?_
     refine W.cond (fun hb => ?_) (fun hb => ?_)
     ·
      have hb20 := hb
      try simp only [hS, hE, ne_eq] at hb
      first | rw [if_pos hb20] at h | rw [if_neg (Bool.eq_false_iff.1 hb20)] at h | rw [if_pos hb] at h | rw [if_neg hb] at h | (simp only [hb, hT, reduceIte] at h) | skip
      repeat (first | (rw [iN] at h; obtain ⟨_, h⟩ := h) | (rw [iP] at h; obtain ⟨_, h⟩ := h) | (simp only [bS] at h))
      refine AWp.skip ?_
      refine AWp.seq ?_
      refine AWp.block ?_
      refine AWp.seq ?_
      refine AWp.region ?_
      refine L.Y (Y.ixo Tryd.underlying32 Y3) ?_
      refine L.S (S.ld Tryd.underlying3) ?_
      refine L.Y Y.asg ?_
      refine AList.nil ?_
      refine AWp.seq ?_
      refine AWp.region ?_
      refine L.Y Y.mv ?_
      refine L.Y Y.mv ?_
      refine L.Y Y.mv ?_
      refine L.Y Y.mv ?_
      refine L.M (M.bs Tryd.underlying32 Y3) ?_
      refine L.Y Y.asg ?_
      refine L.Y Y.asg ?_
      refine AList.nil ?_
      simp only [Option.some.injEq, Prod.mk.injEq] at h
      obtain ⟨rfl, rfl⟩ := h
      refine AWp.ret ?_
      exact ⟨.inr rfl, [(2, _), (3, _)], _, ⟨rfl, rfl⟩, IsPart.at [] [4] base0 (H.c .nil) (E.c (E.c .nil))⟩
     ·
      have hb20 := hb
      try simp only [hS, hE, ne_eq] at hb
      first | rw [if_pos hb20] at h | rw [if_neg (Bool.eq_false_iff.1 hb20)] at h | rw [if_pos hb] at h | rw [if_neg hb] at h | (simp only [hb, hT, reduceIte] at h) | skip
      refine AWp.exit ?_
      refine AWp.region ?_
      refine L.Y Y.bin ?_
      refine L.Y Y.mv ?_
      refine AList.nil ?_
      exact ⟨k18, by omega, _, _, ⟨by omega, _, _, _, _, _, _, _, _, _, rfl, rfl, h⟩, IsPart.at [] [0, 1, 2] base0 (H.c (H.c (H.c .nil))) (E.c (E.c (E.c (E.c (E.c (E.c (E.c (E.c (E.c .nil)))))))))⟩
    ·
     have hb13 := hb
     try simp only [hS, hE, ne_eq] at hb
     first | rw [if_pos hb13] at h | rw [if_neg (Bool.eq_false_iff.1 hb13)] at h | rw [if_pos hb] at h | rw [if_neg hb] at h | (simp only [hb, hT, reduceIte] at h) | skip
     refine AWp.exit ?_
     refine AWp.region ?_
     refine L.Y Y.bin ?_
     refine L.Y Y.mv ?_
     refine AList.nil ?_
     exact ⟨k11, by omega, _, _, ⟨by omega, _, _, _, _, _, rfl, rfl, h⟩, IsPart.at [] [0, 1] base0 (H.c (H.c .nil)) (E.c (E.c (E.c (E.c (E.c .nil)))))⟩
   ·
    have hb9 := hb
    try simp only [hS, hE, ne_eq] at hb
    first | rw [if_pos hb9] at h | rw [if_neg (Bool.eq_false_iff.1 hb9)] at h | rw [if_pos hb] at h | rw [if_neg hb] at h | (simp only [hb, hT, reduceIte] at h) | skip
    refine AWp.exit ?_
    refine AWp.region ?_
    refine L.Y Y.mv ?_
    refine L.Y Y.bin ?_
    refine L.Y Y.asg ?_
    refine AList.nil ?_
    exact ⟨k7, by omega, _, _, ⟨by omega, _, _, rfl, rfl, h⟩, IsPart.at [] [0] base0 (H.c .nil) (E.c (E.c .nil))⟩
  ·
   have hb5 := hb
   try simp only [hS, hE, ne_eq] at hb
   first | rw [if_pos hb5] at h | rw [if_neg (Bool.eq_false_iff.1 hb5)] at h | rw [if_pos hb] at h | rw [if_neg hb] at h | (simp only [hb, hT, reduceIte] at h) | skip
   refine AWp.exit ?_
   refine AWp.seq ?_
   refine AWp.region ?_
   refine L.Y Y.asg ?_
   refine L.Y Y.asg ?_
   refine AList.nil ?_
   simp only [Option.some.injEq, Prod.mk.injEq] at h
   obtain ⟨rfl, rfl⟩ := h
   refine AWp.ret ?_
   exact ⟨.inr rfl, [(2, _), (3, _)], _, ⟨rfl, rfl⟩, IsPart.at [(3, 1)] [1] base0 (H.c .nil) (E.c (E.c .nil))⟩

/-! ### spec_seGood: function 27 -/
def spec_seGood.f (k : Nat) (a0_0 : Int) (l0_1 : List Int) : Option (Bool) := (spec_ThreeOneOf.f k a0_0 l0_1).bind fun bt194 => ((spec_orGood.f k a0_0 l0_1).bind fun t198 => (if t198 = true then (if bt194.2 = true then (some false) else ((spec_seTwoTwo.f k a0_0 l0_1).bind fun t199 => (some (!t199)))) else (some false)))
set_option maxRecDepth 100000 in
set_option maxHeartbeats 20000000 in
theorem spec_seGood.ac (k : Nat) (a0_0 : Int) (l0_1 : List Int) (r : Bool) (h : spec_seGood.f k a0_0 l0_1 = some r) :
  ACalls Tryd.prog 27 [.agg [.lit (.int .i64 a0_0), .row 1 l0_1.length false (ints .i64 l0_1)]] [] (fun v H' => v = .lit (.bool r) ∧ H' = []) := by
 refine ACalls.ofP [2] Tryd.func27 rfl (by exact Nat.le_of_ble_eq_true rfl) rfl (by decide) ?_
 simp only [Tryd.ntmps27, env0, spec_seGood.f] at h ⊢
 refine AWp.seq ?_
 refine AWp.region ?_
 refine L.M M.bx ?_
 refine L.Y Y.asg ?_
 refine AList.nil ?_
 refine AWp.seq ?_
 refine AWp.region ?_
 refine L.S (S.ldN Tryd.underlying34 Y34) ?_
 replace h := Option.bind_eq_some_iff.1 h
 obtain ⟨⟨t194, t197⟩, hc1, h⟩ := h
 dsimp only at h
 refine L.C (C.callE (l := true) [] Tryd.func35 (spec_ThreeOneOf.ac _ _ _ _ _ hc1) .nil ?_)
 refine L.Y Y.mv ?_
 refine L.Y Y.ex ?_
 refine L.Y Y.ex ?_
 refine L.Y Y.asg ?_
 refine L.Y Y.asg ?_
 refine AList.nil ?_
 refine AWp.seq ?_
 refine W.kp [0, 1, 2, 4] ?_
 refine AWp.region ?_
 refine L.S (S.ldN Tryd.underlying34 Y34) ?_
 replace h := Option.bind_eq_some_iff.1 h
 obtain ⟨t198, hc2, h⟩ := h
 refine L.C (C.callE (l := true) [] Tryd.func28 (spec_orGood.ac _ _ _ _ hc2) .nil ?_)
 refine L.Y Y.mv ?_
 refine L.Gc (fun hb => ?_) (fun hb => ?_)
 ·
  have hb3 := hb
  try simp only [hS, hE, ne_eq] at hb
  first | rw [if_pos hb3] at h | rw [if_neg (Bool.eq_false_iff.1 hb3)] at h | rw [if_pos hb] at h | rw [if_neg hb] at h | (simp only [hb, hT, reduceIte] at h) | skip
  refine L.Gy hb3 Y.mv ?_
  refine L.Gy hb3 Y.nt ?_
  refine L.Y (Y.pk (c := true) hb3) ?_
  refine L.Y Y.mv ?_
  refine L.Gc (fun hb => ?_) (fun hb => ?_)
  ·
   have hb4 := hb
   try simp only [hS, hE, ne_eq] at hb
   first | rw [if_pos hb4] at h | rw [if_neg (Bool.eq_false_iff.1 hb4)] at h | rw [if_pos hb] at h | rw [if_neg hb] at h | (simp only [hb, hT, reduceIte] at h) | skip
   refine L.Gs hb4 (S.ldN Tryd.underlying34 Y34) ?_
   replace h := Option.bind_eq_some_iff.1 h
   obtain ⟨t199, hc5, h⟩ := h
   refine L.GC hb4 (C.callE (l := true) [] Tryd.func29 (spec_seTwoTwo.ac _ _ _ _ hc5) .nil ?_)
   refine L.Gy hb4 Y.nt ?_
   refine L.Y (Y.pk (c := true) hb4) ?_
   refine L.Y Y.asg ?_
   refine AList.nil ?_
   obtain rfl := Option.some.inj h
   refine AWp.ret ?_
   exact ⟨.inr rfl, [(2, _)], _, ⟨rfl, rfl⟩, IsPart.at [] [] base0 .nil (E.c .nil)⟩
  ·
   have hb4 := hb
   try simp only [hS, hE, ne_eq] at hb
   first | rw [if_pos hb4] at h | rw [if_neg (Bool.eq_false_iff.1 hb4)] at h | rw [if_pos hb] at h | rw [if_neg hb] at h | (simp only [hb, hT, reduceIte] at h) | skip
   refine L.Gn hb4 ?_
   refine L.Gn hb4 ?_
   refine L.Gn hb4 ?_
   refine L.Y (Y.pk (c := false) hb4) ?_
   refine L.Y Y.asg ?_
   refine AList.nil ?_
   obtain rfl := Option.some.inj h
   refine AWp.ret ?_
   exact ⟨.inr rfl, [(2, _)], _, ⟨rfl, rfl⟩, IsPart.at [] [] base0 .nil (E.c .nil)⟩
 ·
  have hb3 := hb
  try simp only [hS, hE, ne_eq] at hb
  first | rw [if_pos hb3] at h | rw [if_neg (Bool.eq_false_iff.1 hb3)] at h | rw [if_pos hb] at h | rw [if_neg hb] at h | (simp only [hb, hT, reduceIte] at h) | skip
  refine L.Gn hb3 ?_
  refine L.Gn hb3 ?_
  refine L.Y (Y.pk (c := false) hb3) ?_
  refine L.Y Y.mv ?_
  refine L.Gc (fun hb => ?_) (fun hb => ?_)
  ·
   first | exact Bool.false_ne_true ((Eq.symm (by assumption)).trans hb) | exact Bool.false_ne_true (hb.symm.trans (by assumption)) | exact DD hb
  have hb6 := hb
  refine L.Gn hb6 ?_
  refine L.Gn hb6 ?_
  refine L.Gn hb6 ?_
  refine L.Y (Y.pk (c := false) hb6) ?_
  refine L.Y Y.asg ?_
  refine AList.nil ?_
  obtain rfl := Option.some.inj h
  refine AWp.ret ?_
  exact ⟨.inr rfl, [(2, _)], _, ⟨rfl, rfl⟩, IsPart.at [] [] base0 .nil (E.c .nil)⟩

/-! ### spec_cfKind: function 19 -/
def spec_cfKind.f (k : Nat) (a0_0 : Int) (l0_1 : List Int) (a1 : Int) : Option (Bool) := if a1 = 0 then ((spec_weGood.f k a0_0 l0_1).bind fun t201 => (some t201)) else (if a1 = 1 then ((spec_seGood.f k a0_0 l0_1).bind fun t202 => (some t202)) else (if a1 = 2 then ((spec_orGood.f k a0_0 l0_1).bind fun t203 => (if t203 = true then ((spec_seTwoTwo.f k a0_0 l0_1).bind fun t204 => (some (!t204))) else (some false))) else ((spec_orGood.f k a0_0 l0_1).bind fun t205 => (some t205))))
set_option maxRecDepth 100000 in
set_option maxHeartbeats 20000000 in
theorem spec_cfKind.ac (k : Nat) (a0_0 : Int) (l0_1 : List Int) (a1 : Int) (r : Bool) (h : spec_cfKind.f k a0_0 l0_1 a1 = some r) :
  ACalls Tryd.prog 19 [.agg [.lit (.int .i64 a0_0), .row 1 l0_1.length false (ints .i64 l0_1)], .lit (.int .i64 a1)] [] (fun v H' => v = .lit (.bool r) ∧ H' = []) := by
 refine ACalls.ofP [4] Tryd.func19 rfl (by exact Nat.le_of_ble_eq_true rfl) rfl (by decide) ?_
 simp only [Tryd.ntmps19, env0, spec_cfKind.f] at h ⊢
 refine AWp.seq ?_
 refine AWp.region ?_
 refine L.M M.bx ?_
 refine L.Y Y.asg ?_
 refine AList.nil ?_
 refine AWp.seq ?_
 refine AWp.seq ?_
 refine AWp.region ?_
 refine L.Y Y.mv ?_
 refine AList.nil ?_
 refine AWp.block ?_
 refine AWp.seq ?_
 refine AWp.region ?_
 refine L.Y Y.bin ?_
 refine L.Y Y.asg ?_
 refine AList.nil ?_
 refine W.cond (fun hb => ?_) (fun hb => ?_)
 ·
  have hb1 := hb
  try simp only [hS, hE, ne_eq] at hb
  first | rw [if_pos hb1] at h | rw [if_neg (Bool.eq_false_iff.1 hb1)] at h | rw [if_pos hb] at h | rw [if_neg hb] at h | (simp only [hb, hT, reduceIte] at h) | skip
  refine AWp.seq ?_
  refine AWp.region ?_
  refine L.S (S.ldN Tryd.underlying34 Y34) ?_
  replace h := Option.bind_eq_some_iff.1 h
  obtain ⟨t201, hc2, h⟩ := h
  refine L.C (C.callE (l := true) [] Tryd.func26 (spec_weGood.ac _ _ _ _ hc2) .nil ?_)
  refine L.Y Y.asg ?_
  refine AList.nil ?_
  obtain rfl := Option.some.inj h
  refine AWp.ret ?_
  exact ⟨.inr rfl, [(4, _)], _, ⟨rfl, rfl⟩, IsPart.at [] [] base0 .nil (E.c .nil)⟩
 ·
  have hb1 := hb
  try simp only [hS, hE, ne_eq] at hb
  first | rw [if_pos hb1] at h | rw [if_neg (Bool.eq_false_iff.1 hb1)] at h | rw [if_pos hb] at h | rw [if_neg hb] at h | (simp only [hb, hT, reduceIte] at h) | skip
  refine AWp.seq ?_
  refine AWp.region ?_
  refine L.Y Y.bin ?_
  refine L.Y Y.asg ?_
  refine AList.nil ?_
  refine W.cond (fun hb => ?_) (fun hb => ?_)
  ·
   have hb3 := hb
   try simp only [hS, hE, ne_eq] at hb
   first | rw [if_pos hb3] at h | rw [if_neg (Bool.eq_false_iff.1 hb3)] at h | rw [if_pos hb] at h | rw [if_neg hb] at h | (simp only [hb, hT, reduceIte] at h) | skip
   refine AWp.seq ?_
   refine AWp.region ?_
   refine L.S (S.ldN Tryd.underlying34 Y34) ?_
   replace h := Option.bind_eq_some_iff.1 h
   obtain ⟨t202, hc4, h⟩ := h
   refine L.C (C.callE (l := true) [] Tryd.func27 (spec_seGood.ac _ _ _ _ hc4) .nil ?_)
   refine L.Y Y.asg ?_
   refine AList.nil ?_
   obtain rfl := Option.some.inj h
   refine AWp.ret ?_
   exact ⟨.inr rfl, [(4, _)], _, ⟨rfl, rfl⟩, IsPart.at [] [] base0 .nil (E.c .nil)⟩
  ·
   have hb3 := hb
   try simp only [hS, hE, ne_eq] at hb
   first | rw [if_pos hb3] at h | rw [if_neg (Bool.eq_false_iff.1 hb3)] at h | rw [if_pos hb] at h | rw [if_neg hb] at h | (simp only [hb, hT, reduceIte] at h) | skip
   refine AWp.seq ?_
   refine AWp.region ?_
   refine L.Y Y.bin ?_
   refine L.Y Y.asg ?_
   refine AList.nil ?_
   refine W.cond (fun hb => ?_) (fun hb => ?_)
   ·
    have hb5 := hb
    try simp only [hS, hE, ne_eq] at hb
    first | rw [if_pos hb5] at h | rw [if_neg (Bool.eq_false_iff.1 hb5)] at h | rw [if_pos hb] at h | rw [if_neg hb] at h | (simp only [hb, hT, reduceIte] at h) | skip
    refine AWp.seq ?_
    refine AWp.region ?_
    refine L.S (S.ldN Tryd.underlying34 Y34) ?_
    replace h := Option.bind_eq_some_iff.1 h
    obtain ⟨t203, hc6, h⟩ := h
    refine L.C (C.callE (l := true) [] Tryd.func28 (spec_orGood.ac _ _ _ _ hc6) .nil ?_)
    refine L.Y Y.mv ?_
    refine L.Gc (fun hb => ?_) (fun hb => ?_)
    ·
     have hb7 := hb
     try simp only [hS, hE, ne_eq] at hb
     first | rw [if_pos hb7] at h | rw [if_neg (Bool.eq_false_iff.1 hb7)] at h | rw [if_pos hb] at h | rw [if_neg hb] at h | (simp only [hb, hT, reduceIte] at h) | skip
     refine L.Gs hb7 (S.ldN Tryd.underlying34 Y34) ?_
     replace h := Option.bind_eq_some_iff.1 h
     obtain ⟨t204, hc8, h⟩ := h
     refine L.GC hb7 (C.callE (l := true) [] Tryd.func29 (spec_seTwoTwo.ac _ _ _ _ hc8) .nil ?_)
     refine L.Gy hb7 Y.nt ?_
     refine L.Y (Y.pk (c := true) hb7) ?_
     refine L.Y Y.asg ?_
     refine AList.nil ?_
     obtain rfl := Option.some.inj h
     refine AWp.ret ?_
     exact ⟨.inr rfl, [(4, _)], _, ⟨rfl, rfl⟩, IsPart.at [] [] base0 .nil (E.c .nil)⟩
    ·
     have hb7 := hb
     try simp only [hS, hE, ne_eq] at hb
     first | rw [if_pos hb7] at h | rw [if_neg (Bool.eq_false_iff.1 hb7)] at h | rw [if_pos hb] at h | rw [if_neg hb] at h | (simp only [hb, hT, reduceIte] at h) | skip
     refine L.Gn hb7 ?_
     refine L.Gn hb7 ?_
     refine L.Gn hb7 ?_
     refine L.Y (Y.pk (c := false) hb7) ?_
     refine L.Y Y.asg ?_
     refine AList.nil ?_
     obtain rfl := Option.some.inj h
     refine AWp.ret ?_
     exact ⟨.inr rfl, [(4, _)], _, ⟨rfl, rfl⟩, IsPart.at [] [] base0 .nil (E.c .nil)⟩
   ·
    have hb5 := hb
    try simp only [hS, hE, ne_eq] at hb
    first | rw [if_pos hb5] at h | rw [if_neg (Bool.eq_false_iff.1 hb5)] at h | rw [if_pos hb] at h | rw [if_neg hb] at h | (simp only [hb, hT, reduceIte] at h) | skip
    refine AWp.skip ?_
    refine AWp.seq ?_
    refine AWp.region ?_
    refine L.S (S.ldN Tryd.underlying34 Y34) ?_
    replace h := Option.bind_eq_some_iff.1 h
    obtain ⟨t205, hc9, h⟩ := h
    refine L.C (C.callE (l := true) [] Tryd.func28 (spec_orGood.ac _ _ _ _ hc9) .nil ?_)
    refine L.Y Y.asg ?_
    refine AList.nil ?_
    obtain rfl := Option.some.inj h
    refine AWp.ret ?_
    exact ⟨.inr rfl, [(4, _)], _, ⟨rfl, rfl⟩, IsPart.at [] [] base0 .nil (E.c .nil)⟩

/-! ### spec_cfOrders: function 11 -/
mutual
def spec_cfOrders.l0 : Nat → Int → List Int → Int → List (S34) → Int → Option ((List (S34)))
 | 0, _, _, _, _, _ => none
 | k + 1, x0, x1, x2, x8, x9 => if 0 ≤ x0 then (if x9 < (shl .i64 1 x0) then ((spec_orHas.f x9 (x1.length : Int)).bind fun t214 => (if t214 = true then (spec_cfOrders.l0 k x0 x1 x2 x8 (wrap64 (x9 + 1))) else ((spec_l1Own.f x1).bind fun t215 => (if t215.length < 17592186044416 then ((spec_cfOrders.f k x0 (t215 ++ [x9]) x2).bind fun t221 => (if x8.length + t221.length < 4398046511104 then (spec_cfOrders.l0 k x0 x1 x2 (x8 ++ t221) (wrap64 (x9 + 1))) else (none))) else (none))))) else (some x8)) else (none)
def spec_cfOrders.f : Nat → Int → List Int → Int → Option ((List (S34)))
 | 0, _, _, _ => none
 | k + 1, a0, l1, a2 => if (l1.length : Int) = a0 then ((spec_l1Own.f l1).bind fun t206 => ((spec_cfKind.f k a0 t206 a2).bind fun t210 => (if t210 = true then (some (([(⟨a0, t206⟩ : S34)] : List (S34)))) else (some ([] : List (S34)))))) else (spec_cfOrders.l0 k a0 l1 a2 ([] : List (S34)) 0)
end
set_option maxRecDepth 100000 in
set_option maxHeartbeats 20000000 in
theorem spec_cfOrders.ac : ∀ (k : Nat) (a0 : Int) (l1 : List Int) (a2 : Int) (r : List (S34)) (_ : spec_cfOrders.f k a0 l1 a2 = some r),
  ACalls Tryd.prog 11 [.lit (.int .i64 a0), .row 1 l1.length false (ints .i64 l1), .lit (.int .i64 a2)] [] (fun v H' => v = .own 0 r.length ∧ H' = [.sl 34 2 r.length false (Enc.cells r)]) := by
 intro k
 induction k using Nat.strongRecOn with
 | _ k ih =>
 intro a0 l1 a2 r h
 cases k with
 | zero => exact absurd h (by simp [spec_cfOrders.f])
 | succ k =>
 refine ACalls.ofP [6] Tryd.func11 rfl (by exact Nat.le_of_ble_eq_true rfl) rfl (by decide) ?_
 simp only [Tryd.ntmps11, env0, spec_cfOrders.f] at h ⊢
 refine AWp.seq ?_
 refine AWp.region ?_
 refine L.Y Y.asg ?_
 refine AList.nil ?_
 refine AWp.seq ?_
 refine AWp.seq ?_
 refine AWp.region ?_
 refine L.Y Y.mv ?_
 refine L.Y (Y.ln Tryd.underlying32) ?_
 refine L.Y Y.mv ?_
 refine L.Y Y.bin ?_
 refine AList.nil ?_
 refine W.cond (fun hb => ?_) (fun hb => ?_)
 ·
  have hb1 := hb
  try simp only [hS, hE, ne_eq] at hb
  first | rw [if_pos hb1] at h | rw [if_neg (Bool.eq_false_iff.1 hb1)] at h | rw [if_pos hb] at h | rw [if_neg hb] at h | (simp only [hb, hT, reduceIte] at h) | skip
  refine AWp.seq ?_
  refine AWp.region ?_
  refine L.Y Y.mv ?_
  refine L.Y Y.mv ?_
  replace h := Option.bind_eq_some_iff.1 h
  obtain ⟨t206, hc2, h⟩ := h
  refine L.C (C.callE (l := true) [] Tryd.func18 (spec_l1Own.ac _ _ hc2) .nil ?_)
  refine L.Y (Y.bd Tryd.underlying34 Y34 P34) ?_
  refine L.M (M.al Y34) ?_
  refine L.S (S.stb Y34) ?_
  refine AList.nil ?_
  refine AWp.seq ?_
  refine AWp.seq ?_
  refine W.kp [0, 1, 2, 6, 7, 13] ?_
  refine AWp.region ?_
  refine L.S (S.ldN Tryd.underlying34 Y34) ?_
  refine L.Y Y.mv ?_
  replace h := Option.bind_eq_some_iff.1 h
  obtain ⟨t210, hc3, h⟩ := h
  refine L.C (C.callE (l := true) [] Tryd.func19 (spec_cfKind.ac _ _ _ _ _ hc3) .nil ?_)
  refine AList.nil ?_
  refine W.cond (fun hb => ?_) (fun hb => ?_)
  ·
   have hb4 := hb
   try simp only [hS, hE, ne_eq] at hb
   first | rw [if_pos hb4] at h | rw [if_neg (Bool.eq_false_iff.1 hb4)] at h | rw [if_pos hb] at h | rw [if_neg hb] at h | (simp only [hb, hT, reduceIte] at h) | skip
   repeat (first | (rw [iN] at h; obtain ⟨_, h⟩ := h) | (rw [iP] at h; obtain ⟨_, h⟩ := h) | (simp only [bS] at h))
   refine AWp.seq ?_
   refine AWp.region ?_
   refine L.S (S.ldN Tryd.underlying34 Y34) ?_
   refine L.fz 0 ?_
   refine L.M (M.bsT ([(⟨_, _⟩ : S34)] : List (S34)) Tryd.underlying22 Y34) ?_
   refine L.Y Y.asg ?_
   refine AList.nil ?_
   obtain rfl := Option.some.inj h
   refine AWp.ret ?_
   exact ⟨.inr rfl, [(6, _)], _, ⟨rfl, rfl⟩, IsPart.at [] [2] base0 (H.c .nil) (E.c .nil)⟩
  ·
   have hb4 := hb
   try simp only [hS, hE, ne_eq] at hb
   first | rw [if_pos hb4] at h | rw [if_neg (Bool.eq_false_iff.1 hb4)] at h | rw [if_pos hb] at h | rw [if_neg hb] at h | (simp only [hb, hT, reduceIte] at h) | skip
   refine AWp.skip ?_
   refine AWp.seq ?_
   refine AWp.region ?_
   refine L.Y Y.asg ?_
   refine AList.nil ?_
   obtain rfl := Option.some.inj h
   refine AWp.ret ?_
   exact ⟨.inr rfl, [(6, _)], _, ⟨rfl, rfl⟩, IsPart.at [(34, 2)] [2] base0 (H.c .nil) (E.c .nil)⟩
 ·
  have hb1 := hb
  try simp only [hS, hE, ne_eq] at hb
  first | rw [if_pos hb1] at h | rw [if_neg (Bool.eq_false_iff.1 hb1)] at h | rw [if_pos hb] at h | rw [if_neg hb] at h | (simp only [hb, hT, reduceIte] at h) | skip
  refine AWp.skip ?_
  refine AWp.seq ?_
  refine AWp.region ?_
  refine L.Y Y.asg ?_
  refine AList.nil ?_
  refine AWp.seq ?_
  refine AWp.seq ?_
  refine AWp.region ?_
  refine L.Y Y.asg ?_
  refine AList.nil ?_
  refine AWp.block ?_
  refine AWp.loopI (fun kk e H => kk ≤ k ∧ ∃ (x0 : Int) (x2 : Int) (x8 : List (S34)) (x9 : Int), e = [(0, .lit (.int .i64 x0)), (1, .row 1 l1.length false (ints .i64 l1)), (2, .lit (.int .i64 x2)), (6, .lit (.slice none 0 0)), (8, .own 0 x8.length), (9, .lit (.int .i64 x9))] ∧ H = [.sl 34 2 x8.length false (Enc.cells x8)] ∧ spec_cfOrders.l0 kk x0 l1 x2 x8 x9 = some r) (k := k)
   ⟨_, _, ⟨Nat.le_refl _, _, _, _, _, rfl, rfl, h⟩, IsPart.at [(34, 2)] [0] base0 (H.c .nil) (E.c (E.c (E.c (E.c (E.c (E.c .nil))))))⟩ ?_
  clear h
  rintro k5 e H ⟨hk6, x0, x2, x8, x9, rfl, rfl, h⟩
  cases k5 with
  | zero => exact absurd h (by simp [spec_cfOrders.l0])
  | succ k5 =>
  simp only [spec_cfOrders.l0] at h
  repeat (first | (rw [iN] at h; obtain ⟨_, h⟩ := h) | (rw [iP] at h; obtain ⟨_, h⟩ := h) | (simp only [bS] at h))
  refine AWp.seq ?_
  refine AWp.seq ?_
  refine AWp.region ?_
  refine L.Y Y.mv ?_
  refine L.Y Y.mv ?_
  refine L.Y Y.bin ?_
  refine L.Y Y.bin ?_
  refine AList.nil ?_
  refine W.cond (fun hb => ?_) (fun hb => ?_)
  ·
   have hb7 := hb
   try simp only [hS, hE, ne_eq] at hb
   first | rw [if_pos hb7] at h | rw [if_neg (Bool.eq_false_iff.1 hb7)] at h | rw [if_pos hb] at h | rw [if_neg hb] at h | (simp only [hb, hT, reduceIte] at h) | skip
   refine AWp.skip ?_
   refine AWp.seq ?_
   refine AWp.block ?_
   refine AWp.seq ?_
   refine AWp.region ?_
   refine L.Y Y.mv ?_
   refine L.Y Y.mv ?_
   refine L.Y (Y.ln Tryd.underlying32) ?_
   replace h := Option.bind_eq_some_iff.1 h
   obtain ⟨t214, hc8, h⟩ := h
   refine L.C (C.callE (l := true) [] Tryd.func20 (spec_orHas.ac _ _ _ hc8) .nil ?_)
   refine L.Y Y.nt ?_
   refine AList.nil ?_
   refine W.cond (fun hb => ?_) (fun hb => ?_)
   ·
    have hb9 := hb
    try simp only [hS, hE, ne_eq] at hb
    first | rw [if_pos hb9] at h | rw [if_neg (Bool.eq_false_iff.1 hb9)] at h | rw [if_pos hb] at h | rw [if_neg hb] at h | (simp only [hb, hT, reduceIte] at h) | skip
    refine W.kp [0, 1, 2, 6, 8, 9, 26, 33] ?_
    refine AWp.region ?_
    refine L.Y Y.mv ?_
    refine L.Y Y.mv ?_
    refine L.Y Y.mv ?_
    replace h := Option.bind_eq_some_iff.1 h
    obtain ⟨t215, hc10, h⟩ := h
    repeat (first | (rw [iN] at h; obtain ⟨_, h⟩ := h) | (rw [iP] at h; obtain ⟨_, h⟩ := h) | (simp only [bS] at h))
    refine L.C (C.callE (l := true) [] Tryd.func18 (spec_l1Own.ac _ _ hc10) .nil ?_)
    refine L.Y Y.mv ?_
    refine L.M (M.bs Tryd.underlying32 Y3) ?_
    refine L.S (S.ap (nn' := false) Tryd.underlying32 Y3) ?_
    refine L.Y Y.mv ?_
    replace h := Option.bind_eq_some_iff.1 h
    obtain ⟨t221, hc11, h⟩ := h
    repeat (first | (rw [iN] at h; obtain ⟨_, h⟩ := h) | (rw [iP] at h; obtain ⟨_, h⟩ := h) | (simp only [bS] at h))
    refine L.C ?_
    refine C.frz 1 ?_
    refine C.callE (l := false) [] Tryd.func11 (ih k5 (by omega) _ _ _ _ hc11) .nil ?_
    refine L.S (S.ap (nn' := false) Tryd.underlying22 Y34) ?_
    refine L.Y Y.asg ?_
    refine AList.nil ?_
    refine W.kp [0, 1, 2, 6, 8, 9, 26, 33] ?_
    refine AWp.region ?_
    refine L.Y Y.mv ?_
    refine L.Y Y.bin ?_
    refine L.Y Y.asg ?_
    refine AList.nil ?_
    exact ⟨k5, by omega, _, _, ⟨by omega, _, _, _, _, rfl, rfl, h⟩, IsPart.at [] [0] base0 (H.c .nil) (E.c (E.c (E.c (E.c (E.c (E.c .nil))))))⟩
   ·
    have hb9 := hb
    try simp only [hS, hE, ne_eq] at hb
    first | rw [if_pos hb9] at h | rw [if_neg (Bool.eq_false_iff.1 hb9)] at h | rw [if_pos hb] at h | rw [if_neg hb] at h | (simp only [hb, hT, reduceIte] at h) | skip
    refine AWp.skip ?_
    refine W.kp [0, 1, 2, 6, 8, 9, 26, 33] ?_
    refine AWp.region ?_
    refine L.Y Y.mv ?_
    refine L.Y Y.bin ?_
    refine L.Y Y.asg ?_
    refine AList.nil ?_
    exact ⟨k5, by omega, _, _, ⟨by omega, _, _, _, _, rfl, rfl, h⟩, IsPart.at [] [0] base0 (H.c .nil) (E.c (E.c (E.c (E.c (E.c (E.c .nil))))))⟩
  ·
   have hb7 := hb
   try simp only [hS, hE, ne_eq] at hb
   first | rw [if_pos hb7] at h | rw [if_neg (Bool.eq_false_iff.1 hb7)] at h | rw [if_pos hb] at h | rw [if_neg hb] at h | (simp only [hb, hT, reduceIte] at h) | skip
   refine AWp.exit ?_
   refine AWp.seq ?_
   refine AWp.region ?_
   refine L.Y Y.mv ?_
   refine L.Y Y.asg ?_
   refine AList.nil ?_
   obtain rfl := Option.some.inj h
   refine AWp.ret ?_
   exact ⟨.inr rfl, [(6, _)], _, ⟨rfl, rfl⟩, IsPart.at [] [0] base0 (H.c .nil) (E.c .nil)⟩

end Go.Proofs.YtikboghjlpppjaaDoor.PFnExactOrdersOf
