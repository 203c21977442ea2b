-- Written by a program of this session's (wip/myprint2): the functions by the kit's print, the walks by awgen.py. Lean checks it.
import Derived.Test.YtakabmokpknknaaDoorPFnTablesTurnedx0
import Derived.Test.YtakabmokpknknaaDoorPFnTablesTurnedx1
import Derived.Test.YtakabmokpknknaaDoorPFnTablesTurnedx3
import Derived.Test.YtakabmokpknknaaDoorPFnTablesTurnedx4
import Derived.Test.YtakabmokpknknaaDoorPFnTablesTurnedx6
namespace Go.Proofs.YtakabmokpknknaaDoor.PFnTablesTurned
open Go.RowKit Go.Proofs.YtakabmokpknknaaDoorW.PrintWords Go.Proofs.YtakabmokpknknaaDoorW.PrintLast Go.Proofs.YtakabmokpknknaaDoorW.PrintMore Go.Proofs.YtakabmokpknknaaDoorM Go.Proofs.YtakabmokpknknaaDoorA Go.Proofs.YtakabmokpknknaaDoorT
attribute [local go_sem] max2_int min2_int max_two min_two max_three min_three max_four min_four   -- for this text's walks alone
set_option linter.unusedVariables false
set_option linter.unusedSimpArgs false

/-! ### spec_feText: function 122 -/
mutual
def spec_feText.l0 : Nat → ByteArray → List Int → Int → Int → Int → Int → List Int → Option (ByteArray)
 | 0, _, _, _, _, _, _, _ => none
 | k + 1, x3, x8, x9, x10, x370000, x370001, x370002 => if x10 < x9 then (if 0 ≤ x10 then (if x10 < (x8.length : Int) then (if x10 > 0 then (if x3.size + 1 ≤ 9223372036854775807 then (spec_feText.j1 k (x3 ++ (⟨#[47]⟩ : ByteArray)) (rd x8 x10) x8 x9 x10 x370000 x370001 x370002) else (none)) else (spec_feText.j1 k x3 (rd x8 x10) x8 x9 x10 x370000 x370001 x370002)) else (none)) else (none)) else (some x3)
def spec_feText.j1 : Nat → ByteArray → Int → List Int → Int → Int → Int → Int → List Int → Option (ByteArray)
 | 0, _, _, _, _, _, _, _, _ => none
 | k + 1, x3, x5, x8, x9, x10, x370000, x370001, x370002 => spec_feText.l1 k x3 x5 0 x8 x9 x10 x370000 x370001 x370002
def spec_feText.l1 : Nat → ByteArray → Int → Int → List Int → Int → Int → Int → Int → List Int → Option (ByteArray)
 | 0, _, _, _, _, _, _, _, _, _ => none
 | k + 1, x3, x5, x6, x8, x9, x10, x370000, x370001, x370002 => if x6 < x370001 then ((spec_orHas.f x5 x6).bind fun t371 => (if t371 = true then (if x3.size + 1 ≤ 9223372036854775807 then (spec_feText.l1 k (x3 ++ (⟨#[49]⟩ : ByteArray)) x5 (wrap64 (x6 + 1)) x8 x9 x10 x370000 x370001 x370002) else (none)) else (if x3.size + 1 ≤ 9223372036854775807 then (spec_feText.l1 k (x3 ++ (⟨#[48]⟩ : ByteArray)) x5 (wrap64 (x6 + 1)) x8 x9 x10 x370000 x370001 x370002) else (none)))) else (spec_feText.l0 k x3 x8 x9 (wrap64 (x10 + 1)) x370000 x370001 x370002)
end
def spec_feText.f (k : Nat) (a0_0 : Int) (a0_1 : Int) (l0_2 : List Int) : Option (ByteArray) := spec_feText.l0 k (⟨#[]⟩ : ByteArray) l0_2 (l0_2.length : Int) 0 a0_0 a0_1 l0_2
set_option maxRecDepth 100000 in
set_option maxHeartbeats 20000000 in
theorem spec_feText.ac (k : Nat) (a0_0 : Int) (a0_1 : Int) (l0_2 : List Int) (r : ByteArray) (h : spec_feText.f k a0_0 a0_1 l0_2 = some r) :
  ACalls Tryd.prog 122 [.agg [.lit (.int .i64 a0_0), .lit (.int .i64 a0_1), .row 1 l0_2.length false (ints .i64 l0_2)]] [] (fun v H' => v = .lit (.string r) ∧ H' = []) := by
 refine ACalls.ofP [2] Tryd.func122 rfl (by exact Nat.le_of_ble_eq_true rfl) rfl (by decide) ?_
 simp only [Tryd.ntmps122, env0, spec_feText.f] at h ⊢
 refine AWp.seq ?_
 refine AWp.region ?_
 refine L.M M.bx ?_
 refine L.Y Y.asg ?_
 refine AList.nil ?_
 refine AWp.seq ?_
 refine AWp.region ?_
 refine L.Y Y.asg ?_
 refine AList.nil ?_
 refine AWp.seq ?_
 refine AWp.seq ?_
 refine AWp.region ?_
 refine L.Y (Y.fa (off := 2) Tryd.underlying59 Y22) ?_
 refine L.S (S.ld Tryd.underlying22) ?_
 refine L.Y (Y.ln Tryd.underlying22) ?_
 refine L.Y Y.mv ?_
 refine AList.nil ?_
 refine AWp.block ?_
 refine AWp.loopI (fun kk e H => kk ≤ k ∧ ∃ (x3 : ByteArray) (x9 : Int) (x10 : Int) (x370000 : Int) (x370001 : Int), e = [(1, .ptr 0 0), (3, .lit (.string x3)), (8, .row 1 l0_2.length false (ints .i64 l0_2)), (9, .lit (.int .i64 x9)), (10, .lit (.int .i64 x10))] ∧ H = [.bx 59 [.lit (.int .i64 x370000), .lit (.int .i64 x370001), .row 1 l0_2.length false (ints .i64 l0_2)]] ∧ spec_feText.l0 kk x3 l0_2 x9 x10 x370000 x370001 l0_2 = some r) (k := k)
  ⟨_, _, ⟨Nat.le_refl _, _, _, _, _, _, rfl, rfl, h⟩, IsPart.at [] [0] base0 (H.c .nil) (E.c (E.c (E.c (E.c (E.c .nil)))))⟩ ?_
 clear h
 rintro k1 e H ⟨hk2, x3, x9, x10, x370000, x370001, rfl, rfl, h⟩
 cases k1 with
 | zero => exact absurd h (by simp [spec_feText.l0])
 | succ k1 =>
 simp only [spec_feText.l0] at h
 refine AWp.seq ?_
 refine AWp.region ?_
 refine L.Y Y.bin ?_
 refine AList.nil ?_
 refine AWp.seq ?_
 refine W.cond (fun hb => ?_) (fun hb => ?_)
 ·
  have hb3 := hb
  try simp only [hS, hE, ne_eq] at hb
  first | rw [if_pos hb3] at h | rw [if_neg (Bool.eq_false_iff.1 hb3)] at h | rw [if_pos hb] at h | rw [if_neg hb] at h | (simp only [hb, hT, reduceIte] at h) | skip
  repeat (first | (rw [iN] at h; obtain ⟨_, h⟩ := h) | (rw [iP] at h; obtain ⟨_, h⟩ := h) | (simp only [bS] at h))
  refine AWp.skip ?_
  refine AWp.seq ?_
  refine AWp.block ?_
  refine AWp.seq ?_
  refine AWp.region ?_
  refine L.Y Y.mv ?_
  refine L.Y (Y.ixr Tryd.underlying22 Y3) ?_
  refine L.S (S.ld Tryd.underlying3) ?_
  refine L.Y Y.asg ?_
  refine L.Y Y.asg ?_
  refine AList.nil ?_
  refine AWp.seq ?_
  refine AWp.seq ?_
  refine AWp.region ?_
  refine L.Y Y.mv ?_
  refine L.Y Y.bin ?_
  refine AList.nil ?_
  refine W.cond (fun hb => ?_) (fun hb => ?_)
  ·
   have hb4 := hb
   try simp only [hS, hE, ne_eq] at hb
   first | rw [if_pos hb4] at h | rw [if_neg (Bool.eq_false_iff.1 hb4)] at h | rw [if_pos hb] at h | rw [if_neg hb] at h | (simp only [hb, hT, reduceIte] at h) | skip
   repeat (first | (rw [iN] at h; obtain ⟨_, h⟩ := h) | (rw [iP] at h; obtain ⟨_, h⟩ := h) | (simp only [bS] at h))
   refine W.kp [1, 3, 4, 5, 8, 9, 10, 11, 16] ?_
   refine AWp.region ?_
   refine L.Y Y.mv ?_
   refine L.Y Y.bin ?_
   refine L.Y Y.asg ?_
   refine AList.nil ?_
   refine AWp.seq ?_
   refine AWp.region ?_
   refine L.Y Y.asg ?_
   refine AList.nil ?_
   refine AWp.block ?_
   rcases k1 with _ | k1
   ·
    exact absurd h (by simp [spec_feText.j1])
   simp only [spec_feText.j1] at h
   refine AWp.loopI (fun kk e H => kk ≤ k1 ∧ ∃ (x3 : ByteArray) (x5 : Int) (x6 : Int) (x9 : Int) (x10 : Int) (x370000 : Int) (x370001 : Int), e = [(1, .ptr 0 0), (3, .lit (.string x3)), (5, .lit (.int .i64 x5)), (6, .lit (.int .i64 x6)), (8, .row 1 l0_2.length false (ints .i64 l0_2)), (9, .lit (.int .i64 x9)), (10, .lit (.int .i64 x10))] ∧ H = [.bx 59 [.lit (.int .i64 x370000), .lit (.int .i64 x370001), .row 1 l0_2.length false (ints .i64 l0_2)]] ∧ spec_feText.l1 kk x3 x5 x6 l0_2 x9 x10 x370000 x370001 l0_2 = some r) (k := k1)
    ⟨_, _, ⟨Nat.le_refl _, _, _, _, _, _, _, _, rfl, rfl, h⟩, IsPart.at [] [0] base0 (H.c .nil) (E.c (E.c (E.c (E.c (E.c (E.c (E.c .nil)))))))⟩ ?_
   clear h
   rintro k5 e H ⟨hk6, x3, x5, x6, x9, x10, x370000, x370001, rfl, rfl, h⟩
   cases k5 with
   | zero => exact absurd h (by simp [spec_feText.l1])
   | succ k5 =>
   simp only [spec_feText.l1] at h
   refine AWp.seq ?_
   refine AWp.seq ?_
   refine AWp.region ?_
   refine L.Y Y.mv ?_
   refine L.Y (Y.fa (off := 1) Tryd.underlying59 Y3) ?_
   refine L.S (S.ld Tryd.underlying3) ?_
   refine L.Y Y.bin ?_
   refine AList.nil ?_
   refine W.cond (fun hb => ?_) (fun hb => ?_)
   ·
    have hb7 := hb
    try simp only [hS, hE, ne_eq] at hb
    first | rw [if_pos hb7] at h | rw [if_neg (Bool.eq_false_iff.1 hb7)] at h | rw [if_pos hb] at h | rw [if_neg hb] at h | (simp only [hb, hT, reduceIte] at h) | skip
    refine AWp.skip ?_
    refine AWp.seq ?_
    refine AWp.block ?_
    refine AWp.seq ?_
    refine AWp.region ?_
    refine L.Y Y.mv ?_
    refine L.Y Y.mv ?_
    replace h := Option.bind_eq_some_iff.1 h
    obtain ⟨t371, hc8, h⟩ := h
    refine L.C (C.callE (l := true) [] Tryd.func152 (spec_orHas.ac _ _ _ hc8) .nil ?_)
    refine AList.nil ?_
    refine W.cond (fun hb => ?_) (fun hb => ?_)
    ·
     have hb9 := hb
     try simp only [hS, hE, ne_eq] at hb
     first | rw [if_pos hb9] at h | rw [if_neg (Bool.eq_false_iff.1 hb9)] at h | rw [if_pos hb] at h | rw [if_neg hb] at h | (simp only [hb, hT, reduceIte] at h) | skip
     repeat (first | (rw [iN] at h; obtain ⟨_, h⟩ := h) | (rw [iP] at h; obtain ⟨_, h⟩ := h) | (simp only [bS] at h))
     refine W.kp [1, 3, 5, 6, 8, 9, 10, 22, 27] ?_
     refine AWp.region ?_
     refine L.Y Y.mv ?_
     refine L.Y Y.bin ?_
     refine L.Y Y.asg ?_
     refine AList.nil ?_
     refine AWp.region ?_
     refine L.Y Y.mv ?_
     refine L.Y Y.bin ?_
     refine L.Y Y.asg ?_
     refine AList.nil ?_
     exact ⟨k5, by omega, _, _, ⟨by omega, _, _, _, _, _, _, _, rfl, rfl, h⟩, IsPart.at [] [0] base0 (H.c .nil) (E.c (E.c (E.c (E.c (E.c (E.c (E.c .nil)))))))⟩
    ·
     have hb9 := hb
     try simp only [hS, hE, ne_eq] at hb
     first | rw [if_pos hb9] at h | rw [if_neg (Bool.eq_false_iff.1 hb9)] at h | rw [if_pos hb] at h | rw [if_neg hb] at h | (simp only [hb, hT, reduceIte] at h) | skip
     repeat (first | (rw [iN] at h; obtain ⟨_, h⟩ := h) | (rw [iP] at h; obtain ⟨_, h⟩ := h) | (simp only [bS] at h))
     refine W.kp [1, 3, 5, 6, 8, 9, 10, 22, 27] ?_
     refine AWp.region ?_
     refine L.Y Y.mv ?_
     refine L.Y Y.bin ?_
     refine L.Y Y.asg ?_
     refine AList.nil ?_
     refine AWp.region ?_
     refine L.Y Y.mv ?_
     refine L.Y Y.bin ?_
     refine L.Y Y.asg ?_
     refine AList.nil ?_
     exact ⟨k5, by omega, _, _, ⟨by omega, _, _, _, _, _, _, _, rfl, rfl, h⟩, IsPart.at [] [0] base0 (H.c .nil) (E.c (E.c (E.c (E.c (E.c (E.c (E.c .nil)))))))⟩
   ·
    have hb7 := hb
    try simp only [hS, hE, ne_eq] at hb
    first | rw [if_pos hb7] at h | rw [if_neg (Bool.eq_false_iff.1 hb7)] at h | rw [if_pos hb] at h | rw [if_neg hb] at h | (simp only [hb, hT, reduceIte] at h) | skip
    refine AWp.exit ?_
    refine AWp.region ?_
    refine L.Y Y.bin ?_
    refine L.Y Y.mv ?_
    refine AList.nil ?_
    exact ⟨k5, by omega, _, _, ⟨by omega, _, _, _, _, _, rfl, rfl, h⟩, IsPart.at [] [0] base0 (H.c .nil) (E.c (E.c (E.c (E.c (E.c .nil)))))⟩
  ·
   have hb4 := hb
   try simp only [hS, hE, ne_eq] at hb
   first | rw [if_pos hb4] at h | rw [if_neg (Bool.eq_false_iff.1 hb4)] at h | rw [if_pos hb] at h | rw [if_neg hb] at h | (simp only [hb, hT, reduceIte] at h) | skip
   refine AWp.skip ?_
   refine AWp.seq ?_
   refine W.kp [1, 3, 4, 5, 8, 9, 10, 11, 16] ?_
   refine AWp.region ?_
   refine L.Y Y.asg ?_
   refine AList.nil ?_
   refine AWp.block ?_
   rcases k1 with _ | k1
   ·
    exact absurd h (by simp [spec_feText.j1])
   simp only [spec_feText.j1] at h
   refine AWp.loopI (fun kk e H => kk ≤ k1 ∧ ∃ (x3 : ByteArray) (x5 : Int) (x6 : Int) (x9 : Int) (x10 : Int) (x370000 : Int) (x370001 : Int), e = [(1, .ptr 0 0), (3, .lit (.string x3)), (5, .lit (.int .i64 x5)), (6, .lit (.int .i64 x6)), (8, .row 1 l0_2.length false (ints .i64 l0_2)), (9, .lit (.int .i64 x9)), (10, .lit (.int .i64 x10))] ∧ H = [.bx 59 [.lit (.int .i64 x370000), .lit (.int .i64 x370001), .row 1 l0_2.length false (ints .i64 l0_2)]] ∧ spec_feText.l1 kk x3 x5 x6 l0_2 x9 x10 x370000 x370001 l0_2 = some r) (k := k1)
    ⟨_, _, ⟨Nat.le_refl _, _, _, _, _, _, _, _, rfl, rfl, h⟩, IsPart.at [] [0] base0 (H.c .nil) (E.c (E.c (E.c (E.c (E.c (E.c (E.c .nil)))))))⟩ ?_
   clear h
   rintro k10 e H ⟨hk11, x3, x5, x6, x9, x10, x370000, x370001, rfl, rfl, h⟩
   cases k10 with
   | zero => exact absurd h (by simp [spec_feText.l1])
   | succ k10 =>
   simp only [spec_feText.l1] at h
   refine AWp.seq ?_
   refine AWp.seq ?_
   refine AWp.region ?_
   refine L.Y Y.mv ?_
   refine L.Y (Y.fa (off := 1) Tryd.underlying59 Y3) ?_
   refine L.S (S.ld Tryd.underlying3) ?_
   refine L.Y Y.bin ?_
   refine AList.nil ?_
   refine W.cond (fun hb => ?_) (fun hb => ?_)
   ·
    have hb12 := hb
    try simp only [hS, hE, ne_eq] at hb
    first | rw [if_pos hb12] at h | rw [if_neg (Bool.eq_false_iff.1 hb12)] at h | rw [if_pos hb] at h | rw [if_neg hb] at h | (simp only [hb, hT, reduceIte] at h) | skip
    refine AWp.skip ?_
    refine AWp.seq ?_
    refine AWp.block ?_
    refine AWp.seq ?_
    refine AWp.region ?_
    refine L.Y Y.mv ?_
    refine L.Y Y.mv ?_
    replace h := Option.bind_eq_some_iff.1 h
    obtain ⟨t371, hc13, h⟩ := h
    refine L.C (C.callE (l := true) [] Tryd.func152 (spec_orHas.ac _ _ _ hc13) .nil ?_)
    refine AList.nil ?_
    refine W.cond (fun hb => ?_) (fun hb => ?_)
    ·
     have hb14 := hb
     try simp only [hS, hE, ne_eq] at hb
     first | rw [if_pos hb14] at h | rw [if_neg (Bool.eq_false_iff.1 hb14)] at h | rw [if_pos hb] at h | rw [if_neg hb] at h | (simp only [hb, hT, reduceIte] at h) | skip
     repeat (first | (rw [iN] at h; obtain ⟨_, h⟩ := h) | (rw [iP] at h; obtain ⟨_, h⟩ := h) | (simp only [bS] at h))
     refine W.kp [1, 3, 5, 6, 8, 9, 10, 22, 27] ?_
     refine AWp.region ?_
     refine L.Y Y.mv ?_
     refine L.Y Y.bin ?_
     refine L.Y Y.asg ?_
     refine AList.nil ?_
     refine AWp.region ?_
     refine L.Y Y.mv ?_
     refine L.Y Y.bin ?_
     refine L.Y Y.asg ?_
     refine AList.nil ?_
     exact ⟨k10, by omega, _, _, ⟨by omega, _, _, _, _, _, _, _, rfl, rfl, h⟩, IsPart.at [] [0] base0 (H.c .nil) (E.c (E.c (E.c (E.c (E.c (E.c (E.c .nil)))))))⟩
    ·
     have hb14 := hb
     try simp only [hS, hE, ne_eq] at hb
     first | rw [if_pos hb14] at h | rw [if_neg (Bool.eq_false_iff.1 hb14)] at h | rw [if_pos hb] at h | rw [if_neg hb] at h | (simp only [hb, hT, reduceIte] at h) | skip
     repeat (first | (rw [iN] at h; obtain ⟨_, h⟩ := h) | (rw [iP] at h; obtain ⟨_, h⟩ := h) | (simp only [bS] at h))
     refine W.kp [1, 3, 5, 6, 8, 9, 10, 22, 27] ?_
     refine AWp.region ?_
     refine L.Y Y.mv ?_
     refine L.Y Y.bin ?_
     refine L.Y Y.asg ?_
     refine AList.nil ?_
     refine AWp.region ?_
     refine L.Y Y.mv ?_
     refine L.Y Y.bin ?_
     refine L.Y Y.asg ?_
     refine AList.nil ?_
     exact ⟨k10, by omega, _, _, ⟨by omega, _, _, _, _, _, _, _, rfl, rfl, h⟩, IsPart.at [] [0] base0 (H.c .nil) (E.c (E.c (E.c (E.c (E.c (E.c (E.c .nil)))))))⟩
   ·
    have hb12 := hb
    try simp only [hS, hE, ne_eq] at hb
    first | rw [if_pos hb12] at h | rw [if_neg (Bool.eq_false_iff.1 hb12)] at h | rw [if_pos hb] at h | rw [if_neg hb] at h | (simp only [hb, hT, reduceIte] at h) | skip
    refine AWp.exit ?_
    refine AWp.region ?_
    refine L.Y Y.bin ?_
    refine L.Y Y.mv ?_
    refine AList.nil ?_
    exact ⟨k10, by omega, _, _, ⟨by omega, _, _, _, _, _, rfl, rfl, h⟩, IsPart.at [] [0] base0 (H.c .nil) (E.c (E.c (E.c (E.c (E.c .nil)))))⟩
 ·
  have hb3 := hb
  try simp only [hS, hE, ne_eq] at hb
  first | rw [if_pos hb3] at h | rw [if_neg (Bool.eq_false_iff.1 hb3)] at h | rw [if_pos hb] at h | rw [if_neg hb] at h | (simp only [hb, hT, reduceIte] at h) | skip
  refine AWp.exit ?_
  refine AWp.seq ?_
  refine AWp.region ?_
  refine L.Y Y.mv ?_
  refine L.Y Y.asg ?_
  refine AList.nil ?_
  obtain rfl := Option.some.inj h
  refine AWp.ret ?_
  exact ⟨.inr rfl, [(2, _)], _, ⟨rfl, rfl⟩, IsPart.at [] [] base0 .nil (E.c .nil)⟩

/-! ### spec_l1Cur_spoilt: function 123 -/
mutual
def spec_l1Cur_spoilt.l0 : Nat → ByteArray → ByteArray → Int → List Int → Int → Int → Option (ByteArray × Int × Int)
 | 0, _, _, _, _, _, _ => none
 | k + 1, x1, x2, x7, x1000, x1001, x1002 => if x7 > 0 then (spec_l1Cur_spoilt.j1 k x1 x2 x7 (decide ((x1.size : Int) > 0)) x1000 x1001 x1002) else (spec_l1Cur_spoilt.j1 k x1 x2 x7 false x1000 x1001 x1002)
def spec_l1Cur_spoilt.j1 : Nat → ByteArray → ByteArray → Int → Bool → List Int → Int → Int → Option (ByteArray × Int × Int)
 | 0, _, _, _, _, _, _, _ => none
 | k + 1, x1, x2, x7, x19, x1000, x1001, x1002 => if x19 = true then ((spec_l1Cur_pick.f x1000 x1001 x1002 (x1.size : Int)).bind fun bt375 => ((spec_l1Cur_pick.f x1000 bt375.2.1 bt375.2.2 (x2.size : Int)).bind fun bt378 => (if 0 ≤ bt378.1 then (if bt378.1 < (x2.size : Int) then ((some (([bt x2 bt378.1] : List Int) : List Int)).bind fun y381 => ((spec_l1Cur_pick.f x1000 bt378.2.1 bt378.2.2 3).bind fun bt384 => (if bt384.1 = 0 then (if 0 ≤ bt375.1 then (if bt375.1 ≤ (x1.size : Int) then (if (x1.extract 0 (bt375.1 : Int).toNat).size + (strOfNums y381).size ≤ 9223372036854775807 then (if ((x1.extract 0 (bt375.1 : Int).toNat) ++ (strOfNums y381)).size + (x1.extract (bt375.1 : Int).toNat x1.size).size ≤ 9223372036854775807 then (spec_l1Cur_spoilt.l0 k (((x1.extract 0 (bt375.1 : Int).toNat) ++ (strOfNums y381)) ++ (x1.extract (bt375.1 : Int).toNat x1.size)) x2 (wrap64 (x7 - 1)) x1000 bt384.2.1 bt384.2.2) else (none)) else (none)) else (none)) else (none)) else (if bt384.1 = 1 then (if 0 ≤ bt375.1 then (if bt375.1 ≤ (x1.size : Int) then (if (x1.extract 0 (bt375.1 : Int).toNat).size + (strOfNums y381).size ≤ 9223372036854775807 then (if 0 ≤ (wrap64 (bt375.1 + 1)) then (if (wrap64 (bt375.1 + 1)) ≤ (x1.size : Int) then (if ((x1.extract 0 (bt375.1 : Int).toNat) ++ (strOfNums y381)).size + (x1.extract ((wrap64 (bt375.1 + 1)) : Int).toNat x1.size).size ≤ 9223372036854775807 then (spec_l1Cur_spoilt.l0 k (((x1.extract 0 (bt375.1 : Int).toNat) ++ (strOfNums y381)) ++ (x1.extract ((wrap64 (bt375.1 + 1)) : Int).toNat x1.size)) x2 (wrap64 (x7 - 1)) x1000 bt384.2.1 bt384.2.2) else (none)) else (none)) else (none)) else (none)) else (none)) else (none)) else (if 0 ≤ bt375.1 then (if bt375.1 ≤ (x1.size : Int) then (if 0 ≤ (wrap64 (bt375.1 + 1)) then (if (wrap64 (bt375.1 + 1)) ≤ (x1.size : Int) then (if (x1.extract 0 (bt375.1 : Int).toNat).size + (x1.extract ((wrap64 (bt375.1 + 1)) : Int).toNat x1.size).size ≤ 9223372036854775807 then (spec_l1Cur_spoilt.l0 k ((x1.extract 0 (bt375.1 : Int).toNat) ++ (x1.extract ((wrap64 (bt375.1 + 1)) : Int).toNat x1.size)) x2 (wrap64 (x7 - 1)) x1000 bt384.2.1 bt384.2.2) else (none)) else (none)) else (none)) else (none)) else (none)))))) else (none)) else (none)))) else (some (x1, x1001, x1002))
end
def spec_l1Cur_spoilt.f (k : Nat) (s0_0 : List Int) (s0_1 : Int) (s0_2 : Int) (a1 : ByteArray) (a2 : ByteArray) : Option (ByteArray × Int × Int) := (spec_l1Cur_pick.f s0_0 s0_1 s0_2 2).bind fun bt372 => (spec_l1Cur_spoilt.l0 k a1 a2 (wrap64 (1 + bt372.1)) s0_0 bt372.2.1 bt372.2.2)
set_option maxRecDepth 100000 in
set_option maxHeartbeats 20000000 in
theorem spec_l1Cur_spoilt.ac (k : Nat) (s0_0 : List Int) (s0_1 : Int) (s0_2 : Int) (a1 : ByteArray) (a2 : ByteArray) (r1 : ByteArray) (r2 : Int) (r3 : Int) (h : spec_l1Cur_spoilt.f k s0_0 s0_1 s0_2 a1 a2 = some (r1, r2, r3)) :
  ACalls Tryd.prog 123 [.ptr 0 0, .lit (.string a1), .lit (.string a2)] [.bx 106 [.row 1 s0_0.length false (ints .u8 s0_0), .lit (.int .i64 s0_1), .lit (.int .u64 s0_2)]] (fun v H' => v = .lit (.string r1) ∧ H' = [.bx 106 [.row 1 s0_0.length false (ints .u8 s0_0), .lit (.int .i64 r2), .lit (.int .u64 r3)]]) := by
 refine ACalls.ofP [6] Tryd.func123 rfl (by exact Nat.le_of_ble_eq_true rfl) rfl (by decide) ?_
 simp only [Tryd.ntmps123, env0, spec_l1Cur_spoilt.f] at h ⊢
 refine AWp.seq ?_
 refine AWp.region ?_
 refine L.Y Y.asg ?_
 refine AList.nil ?_
 refine AWp.seq ?_
 refine AWp.seq ?_
 refine AWp.region ?_
 refine L.Y Y.mv ?_
 replace h := Option.bind_eq_some_iff.1 h
 obtain ⟨⟨t372, t373, t374⟩, hc1, h⟩ := h
 dsimp only at h
 refine L.C (C.callE (l := false) [0] Tryd.func94 (spec_l1Cur_pick.ac _ _ _ _ _ _ _ hc1) (H.c .nil) ?_)
 refine L.Y Y.bin ?_
 refine L.Y Y.asg ?_
 refine AList.nil ?_
 refine AWp.block ?_
 refine AWp.loopI (fun kk e H => kk ≤ k ∧ ∃ (x1 : ByteArray) (x2 : ByteArray) (x7 : Int) (x1001 : Int) (x1002 : Int), e = [(0, .ptr 0 0), (1, .lit (.string x1)), (2, .lit (.string x2)), (7, .lit (.int .i64 x7))] ∧ H = [.bx 106 [.row 1 s0_0.length false (ints .u8 s0_0), .lit (.int .i64 x1001), .lit (.int .u64 x1002)]] ∧ spec_l1Cur_spoilt.l0 kk x1 x2 x7 s0_0 x1001 x1002 = some (r1, r2, r3)) (k := k)
  ⟨_, _, ⟨Nat.le_refl _, _, _, _, _, _, rfl, rfl, h⟩, IsPart.at [] [0] base1 (H.c .nil) (E.c (E.c (E.c (E.c .nil))))⟩ ?_
 clear h
 rintro k2 e H ⟨hk3, x1, x2, x7, x1001, x1002, rfl, rfl, h⟩
 cases k2 with
 | zero => exact absurd h (by simp [spec_l1Cur_spoilt.l0])
 | succ k2 =>
 simp only [spec_l1Cur_spoilt.l0] at h
 refine AWp.seq ?_
 refine AWp.seq ?_
 refine AWp.region ?_
 refine L.Y Y.mv ?_
 refine L.Y Y.bin ?_
 refine L.Y Y.mv ?_
 refine L.Gc (fun hb => ?_) (fun hb => ?_)
 ·
  have hb4 := hb
  try simp only [hS, hE, ne_eq] at hb
  first | rw [if_pos hb4] at h | rw [if_neg (Bool.eq_false_iff.1 hb4)] at h | rw [if_pos hb] at h | rw [if_neg hb] at h | (simp only [hb, hT, reduceIte] at h) | skip
  refine L.Gy hb4 Y.mv ?_
  refine L.Gy hb4 (Y.ls Tryd.underlying9) ?_
  refine L.Gy hb4 Y.bin ?_
  refine L.Y (Y.pk (c := true) hb4) ?_
  refine AList.nil ?_
  rcases k2 with _ | k2
  ·
   exact absurd h (by simp [spec_l1Cur_spoilt.j1])
  simp only [spec_l1Cur_spoilt.j1] at h
  refine W.cond (fun hb => ?_) (fun hb => ?_)
  ·
   have hb5 := hb
   try simp only [hS, hE, ne_eq] at hb
   first | rw [if_pos hb5] at h | rw [if_neg (Bool.eq_false_iff.1 hb5)] at h | rw [if_pos hb] at h | rw [if_neg hb] at h | (simp only [hb, hT, reduceIte] at h) | skip
   refine AWp.skip ?_
   refine AWp.seq ?_
   refine AWp.block ?_
   refine AWp.seq ?_
   refine W.kp [0, 1, 2, 7, 19] ?_
   refine AWp.region ?_
   refine L.Y Y.mv ?_
   refine L.Y Y.mv ?_
   refine L.Y (Y.ls Tryd.underlying9) ?_
   replace h := Option.bind_eq_some_iff.1 h
   obtain ⟨⟨t375, t376, t377⟩, hc6, h⟩ := h
   dsimp only at h
   refine L.C (C.callE (l := false) [0] Tryd.func94 (spec_l1Cur_pick.ac _ _ _ _ _ _ _ hc6) (H.c .nil) ?_)
   refine L.Y Y.asg ?_
   refine AList.nil ?_
   refine AWp.seq ?_
   refine W.kp [0, 1, 2, 7, 8, 19] ?_
   refine AWp.region ?_
   refine L.Y Y.mv ?_
   refine L.Y Y.mv ?_
   refine L.Y Y.mv ?_
   refine L.Y (Y.ls Tryd.underlying9) ?_
   replace h := Option.bind_eq_some_iff.1 h
   obtain ⟨⟨t378, t379, t380⟩, hc7, h⟩ := h
   dsimp only at h
   repeat (first | (rw [iN] at h; obtain ⟨_, h⟩ := h) | (rw [iP] at h; obtain ⟨_, h⟩ := h) | (simp only [bS] at h))
   refine L.C (C.callE (l := false) [0] Tryd.func94 (spec_l1Cur_pick.ac _ _ _ _ _ _ _ hc7) (H.c .nil) ?_)
   refine L.Y (Y.ixs Tryd.underlying9) ?_
   refine L.M (M.bs Tryd.underlying33 Y5) ?_
   first | refine L.S (S.cvb Tryd.underlying33 Tryd.underlying5 Tryd.underlying9) ?_ | refine L.S (S.cvb (xs := [_]) (hn := rfl) Tryd.underlying33 Tryd.underlying5 Tryd.underlying9) ?_
   refine L.Y Y.asg ?_
   refine AList.nil ?_
   refine AWp.seq ?_
   refine W.kp [0, 1, 2, 7, 8, 9, 19] ?_
   refine AWp.region ?_
   refine L.Y Y.mv ?_
   replace h := Option.bind_eq_some_iff.1 h
   obtain ⟨⟨t384, t385, t386⟩, hc8, h⟩ := h
   dsimp only at h
   refine L.C (C.callE (l := false) [0] Tryd.func94 (spec_l1Cur_pick.ac _ _ _ _ _ _ _ hc8) (H.c .nil) ?_)
   refine AList.nil ?_
   refine AWp.block ?_
   refine AWp.seq ?_
   refine AWp.region ?_
   refine L.Y Y.bin ?_
   refine L.Y Y.asg ?_
   refine AList.nil ?_
   refine W.cond (fun hb => ?_) (fun hb => ?_)
   ·
    have hb9 := hb
    try simp only [hS, hE, ne_eq] at hb
    first | rw [if_pos hb9] at h | rw [if_neg (Bool.eq_false_iff.1 hb9)] at h | rw [if_pos hb] at h | rw [if_neg hb] at h | (simp only [hb, hT, reduceIte] at h) | skip
    repeat (first | (rw [iN] at h; obtain ⟨_, h⟩ := h) | (rw [iP] at h; obtain ⟨_, h⟩ := h) | (simp only [bS] at h))
    refine Dt.reg [] [] (.y 0 (.y 1 (.y 2 (.y 3 (.y 4 (.y 5 (.y 6 (.y 7 (.y 8 (.y 9 .done)))))))))) HM ?_
    refine Dt.Y rfl wantN Y.mv ?_
    refine Dt.Y rfl wantN Y.mv ?_
    refine Dt.Y rfl wantN (Y.csh Tryd.underlying9) ?_
    refine Dt.Y rfl wantN Y.mv ?_
    refine Dt.Y rfl wantN Y.bin ?_
    refine Dt.Y rfl wantN Y.mv ?_
    refine Dt.Y rfl wantN Y.mv ?_
    refine Dt.Y rfl wantN (Y.csl Tryd.underlying9) ?_
    refine Dt.Y rfl wantN Y.bin ?_
    refine Dt.Y rfl wantN Y.asg ?_
    refine Dt.nil ?_
    refine W.kp [0, 1, 2, 7, 8, 9, 19, 35, 44] ?_
    refine AWp.region ?_
    refine L.Y Y.mv ?_
    refine L.Y Y.bin ?_
    refine L.Y Y.asg ?_
    refine AList.nil ?_
    exact ⟨k2, by omega, _, _, ⟨by omega, _, _, _, _, _, rfl, rfl, h⟩, IsPart.at [] [0] base1 (H.c .nil) (E.c (E.c (E.c (E.c .nil))))⟩
   ·
    have hb9 := hb
    try simp only [hS, hE, ne_eq] at hb
    first | rw [if_pos hb9] at h | rw [if_neg (Bool.eq_false_iff.1 hb9)] at h | rw [if_pos hb] at h | rw [if_neg hb] at h | (simp only [hb, hT, reduceIte] at h) | skip
    refine AWp.seq ?_
    refine AWp.region ?_
    refine L.Y Y.bin ?_
    refine L.Y Y.asg ?_
    refine AList.nil ?_
    refine W.cond (fun hb => ?_) (fun hb => ?_)
    ·
     have hb10 := hb
     try simp only [hS, hE, ne_eq] at hb
     first | rw [if_pos hb10] at h | rw [if_neg (Bool.eq_false_iff.1 hb10)] at h | rw [if_pos hb] at h | rw [if_neg hb] at h | (simp only [hb, hT, reduceIte] at h) | skip
     repeat (first | (rw [iN] at h; obtain ⟨_, h⟩ := h) | (rw [iP] at h; obtain ⟨_, h⟩ := h) | (simp only [bS] at h))
     refine Dt.reg [] [] (.y 0 (.y 1 (.y 2 (.y 3 (.y 4 (.y 5 (.y 6 (.y 7 (.y 8 (.y 9 (.y 10 .done))))))))))) HM ?_
     refine Dt.Y rfl wantN Y.mv ?_
     refine Dt.Y rfl wantN Y.mv ?_
     refine Dt.Y rfl wantN (Y.csh Tryd.underlying9) ?_
     refine Dt.Y rfl wantN Y.mv ?_
     refine Dt.Y rfl wantN Y.bin ?_
     refine Dt.Y rfl wantN Y.mv ?_
     refine Dt.Y rfl wantN Y.mv ?_
     refine Dt.Y rfl wantN Y.bin ?_
     refine Dt.Y rfl wantN (Y.csl Tryd.underlying9) ?_
     refine Dt.Y rfl wantN Y.bin ?_
     refine Dt.Y rfl wantN Y.asg ?_
     refine Dt.nil ?_
     refine W.kp [0, 1, 2, 7, 8, 9, 19, 35, 44, 55] ?_
     refine AWp.region ?_
     refine L.Y Y.mv ?_
     refine L.Y Y.bin ?_
     refine L.Y Y.asg ?_
     refine AList.nil ?_
     exact ⟨k2, by omega, _, _, ⟨by omega, _, _, _, _, _, rfl, rfl, h⟩, IsPart.at [] [0] base1 (H.c .nil) (E.c (E.c (E.c (E.c .nil))))⟩
    ·
     have hb10 := hb
     try simp only [hS, hE, ne_eq] at hb
     first | rw [if_pos hb10] at h | rw [if_neg (Bool.eq_false_iff.1 hb10)] at h | rw [if_pos hb] at h | rw [if_neg hb] at h | (simp only [hb, hT, reduceIte] at h) | skip
     repeat (first | (rw [iN] at h; obtain ⟨_, h⟩ := h) | (rw [iP] at h; obtain ⟨_, h⟩ := h) | (simp only [bS] at h))
     refine Dt.reg [] [] (.y 0 (.y 1 (.y 2 (.y 3 (.y 4 (.y 5 (.y 6 (.y 7 (.y 8 .done))))))))) HM ?_
     refine Dt.Y rfl wantN Y.mv ?_
     refine Dt.Y rfl wantN Y.mv ?_
     refine Dt.Y rfl wantN (Y.csh Tryd.underlying9) ?_
     refine Dt.Y rfl wantN Y.mv ?_
     refine Dt.Y rfl wantN Y.mv ?_
     refine Dt.Y rfl wantN Y.bin ?_
     refine Dt.Y rfl wantN (Y.csl Tryd.underlying9) ?_
     refine Dt.Y rfl wantN Y.bin ?_
     refine Dt.Y rfl wantN Y.asg ?_
     refine Dt.nil ?_
     refine W.kp [0, 1, 2, 7, 8, 9, 19, 35, 44, 55] ?_
     refine AWp.region ?_
     refine L.Y Y.mv ?_
     refine L.Y Y.bin ?_
     refine L.Y Y.asg ?_
     refine AList.nil ?_
     exact ⟨k2, by omega, _, _, ⟨by omega, _, _, _, _, _, rfl, rfl, h⟩, IsPart.at [] [0] base1 (H.c .nil) (E.c (E.c (E.c (E.c .nil))))⟩
  ·
   have hb5 := hb
   try simp only [hS, hE, ne_eq] at hb
   first | rw [if_pos hb5] at h | rw [if_neg (Bool.eq_false_iff.1 hb5)] at h | rw [if_pos hb] at h | rw [if_neg hb] at h | (simp only [hb, hT, reduceIte] at h) | skip
   refine AWp.exit ?_
   refine AWp.seq ?_
   refine W.kp [0, 1, 2, 7, 19] ?_
   refine AWp.region ?_
   refine L.Y Y.mv ?_
   refine L.Y Y.asg ?_
   refine AList.nil ?_
   simp only [Option.some.injEq, Prod.mk.injEq] at h
   obtain ⟨rfl, rfl, rfl⟩ := h
   refine AWp.ret ?_
   exact ⟨.inr rfl, [(6, _)], _, ⟨rfl, rfl⟩, IsPart.at [] [0] base1 (H.c .nil) (E.c .nil)⟩
 ·
  have hb4 := hb
  try simp only [hS, hE, ne_eq] at hb
  first | rw [if_pos hb4] at h | rw [if_neg (Bool.eq_false_iff.1 hb4)] at h | rw [if_pos hb] at h | rw [if_neg hb] at h | (simp only [hb, hT, reduceIte] at h) | skip
  refine L.Gn hb4 ?_
  refine L.Gn hb4 ?_
  refine L.Gn hb4 ?_
  refine L.Y (Y.pk (c := false) hb4) ?_
  refine AList.nil ?_
  rcases k2 with _ | k2
  ·
   exact absurd h (by simp [spec_l1Cur_spoilt.j1])
  simp only [spec_l1Cur_spoilt.j1] at h
  refine W.cond (fun hb => ?_) (fun hb => ?_)
  ·
   first | exact Bool.false_ne_true ((Eq.symm (by assumption)).trans hb) | exact Bool.false_ne_true (hb.symm.trans (by assumption)) | exact DD hb
  have hb11 := hb
  try (first | rw [if_pos hb11] at h | rw [if_neg (Bool.eq_false_iff.1 hb11)] at h | rw [if_pos hb] at h | rw [if_neg hb] at h | (simp only [hb, hT, reduceIte] at h) | skip)
  refine AWp.exit ?_
  refine AWp.seq ?_
  refine W.kp [0, 1, 2, 7, 19] ?_
  refine AWp.region ?_
  refine L.Y Y.mv ?_
  refine L.Y Y.asg ?_
  refine AList.nil ?_
  simp only [Option.some.injEq, Prod.mk.injEq] at h
  obtain ⟨rfl, rfl, rfl⟩ := h
  refine AWp.ret ?_
  exact ⟨.inr rfl, [(6, _)], _, ⟨rfl, rfl⟩, IsPart.at [] [0] base1 (H.c .nil) (E.c .nil)⟩

/-! ### spec_DrawParseTable: function 51 -/
def spec_DrawParseTable.j0 : Nat → ByteArray → List Int → Int → Int → Option (ByteArray)
 | 0, _, _, _, _ => none
 | k + 1, x5, x388000, x388001, x388002 => (spec_l1Cur_one.f x388000 x388001 x388002 3).bind fun bt398 => (if bt398.1 = true then ((spec_l1Cur_spoilt.f k x388000 bt398.2.1 bt398.2.2 x5 (⟨#[48, 49, 47, 50, 32]⟩ : ByteArray)).bind fun bt401 => (some bt401.1)) else (some x5))
def spec_DrawParseTable.f (k : Nat) (l0 : List Int) : Option (ByteArray) := (spec_l1Cur_table.f k l0 0 0).bind fun bt388 => ((spec_feGood.f k bt388.1 bt388.2.1 bt388.2.2.1).bind fun t396 => (if t396 = true then ((spec_feText.f k bt388.1 bt388.2.1 bt388.2.2.1).bind fun t397 => (spec_DrawParseTable.j0 k t397 l0 bt388.2.2.2.1 bt388.2.2.2.2)) else (spec_DrawParseTable.j0 k (⟨#[49, 48, 47, 48, 49]⟩ : ByteArray) l0 bt388.2.2.2.1 bt388.2.2.2.2)))
set_option maxRecDepth 100000 in
set_option maxHeartbeats 20000000 in
theorem spec_DrawParseTable.ac (k : Nat) (l0 : List Int) (r : ByteArray) (h : spec_DrawParseTable.f k l0 = some r) :
  ACalls Tryd.prog 51 [.row 1 l0.length false (ints .u8 l0)] [] (fun v H' => v = .lit (.string r) ∧ H' = []) := by
 refine ACalls.ofP [2] Tryd.func51 rfl (by exact Nat.le_of_ble_eq_true rfl) rfl (by decide) ?_
 simp only [Tryd.ntmps51, env0, spec_DrawParseTable.f] at h ⊢
 refine AWp.seq ?_
 refine AWp.region ?_
 refine L.Y Y.asg ?_
 refine AList.nil ?_
 refine AWp.seq ?_
 refine AWp.region ?_
 refine L.Y Y.mv ?_
 refine L.Y (Y.bd Tryd.underlying106 Y106 P106) ?_
 refine L.M M.bx ?_
 refine L.Y Y.asg ?_
 refine AList.nil ?_
 refine AWp.seq ?_
 refine AWp.region ?_
 refine L.Y Y.mv ?_
 replace h := Option.bind_eq_some_iff.1 h
 obtain ⟨⟨t388, t389, t390, t393, t394⟩, hc1, h⟩ := h
 dsimp only at h
 refine L.C (C.callE (l := false) [0] Tryd.func107 (spec_l1Cur_table.ac _ _ _ _ _ _ _ _ _ hc1) (H.c .nil) ?_)
 refine L.M (M.al Y59) ?_
 refine L.S (S.stb Y59) ?_
 refine AList.nil ?_
 refine AWp.seq ?_
 refine W.kp [0, 2, 3, 4] ?_
 refine AWp.region ?_
 refine L.Y Y.asg ?_
 refine AList.nil ?_
 refine AWp.seq ?_
 refine AWp.seq ?_
 refine AWp.region ?_
 refine L.S (S.ldN Tryd.underlying59 Y59) ?_
 replace h := Option.bind_eq_some_iff.1 h
 obtain ⟨t396, hc2, h⟩ := h
 refine L.C (C.callE (l := true) [] Tryd.func108 (spec_feGood.ac _ _ _ _ _ hc2) .nil ?_)
 refine AList.nil ?_
 refine W.cond (fun hb => ?_) (fun hb => ?_)
 ·
  have hb3 := hb
  try simp only [hS, hE, ne_eq] at hb
  first | rw [if_pos hb3] at h | rw [if_neg (Bool.eq_false_iff.1 hb3)] at h | rw [if_pos hb] at h | rw [if_neg hb] at h | (simp only [hb, hT, reduceIte] at h) | skip
  refine AWp.region ?_
  refine L.S (S.ldN Tryd.underlying59 Y59) ?_
  replace h := Option.bind_eq_some_iff.1 h
  obtain ⟨t397, hc4, h⟩ := h
  refine L.C (C.callE (l := true) [] Tryd.func122 (spec_feText.ac _ _ _ _ _ hc4) .nil ?_)
  refine L.Y Y.asg ?_
  refine AList.nil ?_
  refine AWp.seq ?_
  refine AWp.seq ?_
  refine AWp.region ?_
  refine L.Y Y.mv ?_
  rcases k with _ | k
  ·
   exact absurd h (by simp [spec_DrawParseTable.j0])
  simp only [spec_DrawParseTable.j0] at h
  replace h := Option.bind_eq_some_iff.1 h
  obtain ⟨⟨t398, t399, t400⟩, hc5, h⟩ := h
  dsimp only at h
  refine L.C (C.callE (l := false) [0] Tryd.func89 (spec_l1Cur_one.ac _ _ _ _ _ _ _ hc5) (H.c .nil) ?_)
  refine AList.nil ?_
  refine W.cond (fun hb => ?_) (fun hb => ?_)
  ·
   have hb6 := hb
   try simp only [hS, hE, ne_eq] at hb
   first | rw [if_pos hb6] at h | rw [if_neg (Bool.eq_false_iff.1 hb6)] at h | rw [if_pos hb] at h | rw [if_neg hb] at h | (simp only [hb, hT, reduceIte] at h) | skip
   refine AWp.seq ?_
   refine W.kp [0, 2, 3, 4, 5, 12, 16] ?_
   refine AWp.region ?_
   refine L.Y Y.mv ?_
   refine L.Y Y.mv ?_
   replace h := Option.bind_eq_some_iff.1 h
   obtain ⟨⟨t401, t402, t403⟩, hc7, h⟩ := h
   dsimp only at h
   refine L.C (C.callE (l := false) [0] Tryd.func123 (spec_l1Cur_spoilt.ac _ _ _ _ _ _ _ _ _ hc7) (H.c .nil) ?_)
   refine L.Y Y.asg ?_
   refine AList.nil ?_
   obtain rfl := Option.some.inj h
   refine AWp.ret ?_
   exact ⟨.inr rfl, [(2, _)], _, ⟨rfl, rfl⟩, IsPart.at [] [] base0 .nil (E.c .nil)⟩
  ·
   have hb6 := hb
   try simp only [hS, hE, ne_eq] at hb
   first | rw [if_pos hb6] at h | rw [if_neg (Bool.eq_false_iff.1 hb6)] at h | rw [if_pos hb] at h | rw [if_neg hb] at h | (simp only [hb, hT, reduceIte] at h) | skip
   refine AWp.skip ?_
   refine AWp.seq ?_
   refine W.kp [0, 2, 3, 4, 5, 12, 16] ?_
   refine AWp.region ?_
   refine L.Y Y.mv ?_
   refine L.Y Y.asg ?_
   refine AList.nil ?_
   obtain rfl := Option.some.inj h
   refine AWp.ret ?_
   exact ⟨.inr rfl, [(2, _)], _, ⟨rfl, rfl⟩, IsPart.at [] [] base0 .nil (E.c .nil)⟩
 ·
  have hb3 := hb
  try simp only [hS, hE, ne_eq] at hb
  first | rw [if_pos hb3] at h | rw [if_neg (Bool.eq_false_iff.1 hb3)] at h | rw [if_pos hb] at h | rw [if_neg hb] at h | (simp only [hb, hT, reduceIte] at h) | skip
  refine AWp.skip ?_
  refine AWp.seq ?_
  refine AWp.seq ?_
  refine AWp.region ?_
  refine L.Y Y.mv ?_
  rcases k with _ | k
  ·
   exact absurd h (by simp [spec_DrawParseTable.j0])
  simp only [spec_DrawParseTable.j0] at h
  replace h := Option.bind_eq_some_iff.1 h
  obtain ⟨⟨t398, t399, t400⟩, hc8, h⟩ := h
  dsimp only at h
  refine L.C (C.callE (l := false) [0] Tryd.func89 (spec_l1Cur_one.ac _ _ _ _ _ _ _ hc8) (H.c .nil) ?_)
  refine AList.nil ?_
  refine W.cond (fun hb => ?_) (fun hb => ?_)
  ·
   have hb9 := hb
   try simp only [hS, hE, ne_eq] at hb
   first | rw [if_pos hb9] at h | rw [if_neg (Bool.eq_false_iff.1 hb9)] at h | rw [if_pos hb] at h | rw [if_neg hb] at h | (simp only [hb, hT, reduceIte] at h) | skip
   refine AWp.seq ?_
   refine AWp.region ?_
   refine L.Y Y.mv ?_
   refine L.Y Y.mv ?_
   replace h := Option.bind_eq_some_iff.1 h
   obtain ⟨⟨t401, t402, t403⟩, hc10, h⟩ := h
   dsimp only at h
   refine L.C (C.callE (l := false) [0] Tryd.func123 (spec_l1Cur_spoilt.ac _ _ _ _ _ _ _ _ _ hc10) (H.c .nil) ?_)
   refine L.Y Y.asg ?_
   refine AList.nil ?_
   obtain rfl := Option.some.inj h
   refine AWp.ret ?_
   exact ⟨.inr rfl, [(2, _)], _, ⟨rfl, rfl⟩, IsPart.at [] [] base0 .nil (E.c .nil)⟩
  ·
   have hb9 := hb
   try simp only [hS, hE, ne_eq] at hb
   first | rw [if_pos hb9] at h | rw [if_neg (Bool.eq_false_iff.1 hb9)] at h | rw [if_pos hb] at h | rw [if_neg hb] at h | (simp only [hb, hT, reduceIte] at h) | skip
   refine AWp.skip ?_
   refine AWp.seq ?_
   refine AWp.region ?_
   refine L.Y Y.mv ?_
   refine L.Y Y.asg ?_
   refine AList.nil ?_
   obtain rfl := Option.some.inj h
   refine AWp.ret ?_
   exact ⟨.inr rfl, [(2, _)], _, ⟨rfl, rfl⟩, IsPart.at [] [] base0 .nil (E.c .nil)⟩

end Go.Proofs.YtakabmokpknknaaDoor.PFnTablesTurned
