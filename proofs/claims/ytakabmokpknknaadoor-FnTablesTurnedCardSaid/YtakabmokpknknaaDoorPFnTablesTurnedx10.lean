-- Written by a program of this session's (wip/myprint2): the functions by the kit's print, the walks by awgen.py. Lean checks it.
import Derived.Test.YtakabmokpknknaaDoorPFnTablesTurnedx0
import Derived.Test.YtakabmokpknknaaDoorPFnTablesTurnedx4
import Derived.Test.YtakabmokpknknaaDoorPFnTablesTurnedx9
namespace Go.Proofs.YtakabmokpknknaaDoor.PFnTablesTurned
open Go.RowKit Go.Proofs.YtakabmokpknknaaDoorW.PrintWords Go.Proofs.YtakabmokpknknaaDoorW.PrintLast Go.Proofs.YtakabmokpknknaaDoorW.PrintMore Go.Proofs.YtakabmokpknknaaDoorM Go.Proofs.YtakabmokpknknaaDoorA Go.Proofs.YtakabmokpknknaaDoorT
attribute [local go_sem] max2_int min2_int max_two min_two max_three min_three max_four min_four   -- for this text's walks alone
set_option linter.unusedVariables false
set_option linter.unusedSimpArgs false

/-! ### spec_l1Split: function 124 -/
def spec_l1Split.l0 : Nat → ByteArray → Int → List ByteArray → Int → Int → Option (List ByteArray)
 | 0, _, _, _, _, _ => none
 | k + 1, x0, x1, x5, x6, x7 => if x7 < (x0.size : Int) then (if 0 ≤ x7 then (if (bt x0 x7) = x1 then (if 0 ≤ x6 then (if x6 ≤ x7 then (if x7 ≤ (x0.size : Int) then (if x5.length < 8796093022208 then (spec_l1Split.l0 k x0 x1 (x5 ++ [x0.extract (x6 : Int).toNat (x7 : Int).toNat]) (wrap64 (x7 + 1)) (wrap64 (x7 + 1))) else (none)) else (none)) else (none)) else (none)) else (spec_l1Split.l0 k x0 x1 x5 x6 (wrap64 (x7 + 1)))) else (none)) else (if 0 ≤ x6 then (if x6 ≤ (x0.size : Int) then (if x5.length < 8796093022208 then (some (x5 ++ [x0.extract (x6 : Int).toNat x0.size])) else (none)) else (none)) else (none))
def spec_l1Split.f (k : Nat) (a0 : ByteArray) (a1 : Int) : Option (List ByteArray) := spec_l1Split.l0 k a0 a1 ([] : List ByteArray) 0 0
set_option maxRecDepth 100000 in
set_option maxHeartbeats 20000000 in
theorem spec_l1Split.ac (k : Nat) (a0 : ByteArray) (a1 : Int) (r : List ByteArray) (h : spec_l1Split.f k a0 a1 = some r) :
  ACalls Tryd.prog 124 [.lit (.string a0), .lit (.int .u8 a1)] [] (fun v H' => v = .own 0 r.length ∧ H' = [.sl 9 1 r.length false (Enc.cells r)]) := by
 refine ACalls.ofP [4] Tryd.func124 rfl (by exact Nat.le_of_ble_eq_true rfl) rfl (by decide) ?_
 simp only [Tryd.ntmps124, env0, spec_l1Split.f] at h ⊢
 refine AWp.seq ?_
 refine AWp.region ?_
 refine L.Y Y.asg ?_
 refine AList.nil ?_
 refine AWp.seq ?_
 refine AWp.region ?_
 refine L.Y Y.asg ?_
 refine AList.nil ?_
 refine AWp.seq ?_
 refine AWp.region ?_
 refine L.Y Y.asg ?_
 refine AList.nil ?_
 refine AWp.seq ?_
 refine AWp.seq ?_
 refine AWp.region ?_
 refine L.Y Y.asg ?_
 refine AList.nil ?_
 refine AWp.block ?_
 refine AWp.loopI (fun kk e H => kk ≤ k ∧ ∃ (x0 : ByteArray) (x1 : Int) (x5 : List ByteArray) (x6 : Int) (x7 : Int), e = [(0, .lit (.string x0)), (1, .lit (.int .u8 x1)), (4, .lit (.slice none 0 0)), (5, .own 0 x5.length), (6, .lit (.int .i64 x6)), (7, .lit (.int .i64 x7))] ∧ H = [.sl 9 1 x5.length false (Enc.cells x5)] ∧ spec_l1Split.l0 kk x0 x1 x5 x6 x7 = some r) (k := k)
  ⟨_, _, ⟨Nat.le_refl _, _, _, _, _, _, rfl, rfl, h⟩, IsPart.at [(9, 1)] [0] base0 (H.c .nil) (E.c (E.c (E.c (E.c (E.c (E.c .nil))))))⟩ ?_
 clear h
 rintro k1 e H ⟨hk2, x0, x1, x5, x6, x7, rfl, rfl, h⟩
 cases k1 with
 | zero => exact absurd h (by simp [spec_l1Split.l0])
 | succ k1 =>
 simp only [spec_l1Split.l0] at h
 refine AWp.seq ?_
 refine AWp.seq ?_
 refine AWp.region ?_
 refine L.Y Y.mv ?_
 refine L.Y Y.mv ?_
 refine L.Y (Y.ls Tryd.underlying9) ?_
 refine L.Y Y.bin ?_
 refine AList.nil ?_
 refine W.cond (fun hb => ?_) (fun hb => ?_)
 ·
  have hb3 := hb
  try simp only [hS, hE, ne_eq] at hb
  first | rw [if_pos hb3] at h | rw [if_neg (Bool.eq_false_iff.1 hb3)] at h | rw [if_pos hb] at h | rw [if_neg hb] at h | (simp only [hb, hT, reduceIte] at h) | skip
  repeat (first | (rw [iN] at h; obtain ⟨_, h⟩ := h) | (rw [iP] at h; obtain ⟨_, h⟩ := h) | (simp only [bS] at h))
  refine AWp.skip ?_
  refine AWp.seq ?_
  refine AWp.block ?_
  refine AWp.seq ?_
  refine AWp.region ?_
  refine L.Y Y.mv ?_
  refine L.Y Y.mv ?_
  refine L.Y (Y.ixs Tryd.underlying9) ?_
  refine L.Y Y.mv ?_
  refine L.Y Y.bin ?_
  refine AList.nil ?_
  refine W.cond (fun hb => ?_) (fun hb => ?_)
  ·
   have hb4 := hb
   try simp only [hS, hE, ne_eq] at hb
   first | rw [if_pos hb4] at h | rw [if_neg (Bool.eq_false_iff.1 hb4)] at h | rw [if_pos hb] at h | rw [if_neg hb] at h | (simp only [hb, hT, reduceIte] at h) | skip
   repeat (first | (rw [iN] at h; obtain ⟨_, h⟩ := h) | (rw [iP] at h; obtain ⟨_, h⟩ := h) | (simp only [bS] at h))
   refine AWp.seq ?_
   refine W.kp [0, 1, 4, 5, 6, 7, 11, 18] ?_
   refine AWp.region ?_
   refine L.Y Y.mv ?_
   refine L.Y Y.mv ?_
   refine L.Y Y.mv ?_
   refine L.Y Y.mv ?_
   refine L.Y (Y.csb Tryd.underlying9) ?_
   refine L.M (M.bsT ([(_ : ByteArray)] : List ByteArray) Tryd.underlying124 Y9) ?_
   refine L.S (S.ap (nn' := false) Tryd.underlying124 Y9) ?_
   refine L.Y Y.asg ?_
   refine AList.nil ?_
   refine W.kp [0, 1, 4, 5, 6, 7, 11, 18] ?_
   refine AWp.region ?_
   refine L.Y Y.mv ?_
   refine L.Y Y.bin ?_
   refine L.Y Y.asg ?_
   refine AList.nil ?_
   refine AWp.region ?_
   refine L.Y Y.mv ?_
   refine L.Y Y.bin ?_
   refine L.Y Y.asg ?_
   refine AList.nil ?_
   exact ⟨k1, by omega, _, _, ⟨by omega, _, _, _, _, _, rfl, rfl, h⟩, IsPart.at [] [0] base0 (H.c .nil) (E.c (E.c (E.c (E.c (E.c (E.c .nil))))))⟩
  ·
   have hb4 := hb
   try simp only [hS, hE, ne_eq] at hb
   first | rw [if_pos hb4] at h | rw [if_neg (Bool.eq_false_iff.1 hb4)] at h | rw [if_pos hb] at h | rw [if_neg hb] at h | (simp only [hb, hT, reduceIte] at h) | skip
   refine AWp.skip ?_
   refine W.kp [0, 1, 4, 5, 6, 7, 11, 18] ?_
   refine AWp.region ?_
   refine L.Y Y.mv ?_
   refine L.Y Y.bin ?_
   refine L.Y Y.asg ?_
   refine AList.nil ?_
   exact ⟨k1, by omega, _, _, ⟨by omega, _, _, _, _, _, rfl, rfl, h⟩, IsPart.at [] [0] base0 (H.c .nil) (E.c (E.c (E.c (E.c (E.c (E.c .nil))))))⟩
 ·
  have hb3 := hb
  try simp only [hS, hE, ne_eq] at hb
  first | rw [if_pos hb3] at h | rw [if_neg (Bool.eq_false_iff.1 hb3)] at h | rw [if_pos hb] at h | rw [if_neg hb] at h | (simp only [hb, hT, reduceIte] at h) | skip
  repeat (first | (rw [iN] at h; obtain ⟨_, h⟩ := h) | (rw [iP] at h; obtain ⟨_, h⟩ := h) | (simp only [bS] at h))
  refine AWp.exit ?_
  refine AWp.seq ?_
  refine AWp.region ?_
  refine L.Y Y.mv ?_
  refine L.Y Y.mv ?_
  refine L.Y Y.mv ?_
  refine L.Y (Y.csl Tryd.underlying9) ?_
  refine L.M (M.bsT ([(_ : ByteArray)] : List ByteArray) Tryd.underlying124 Y9) ?_
  refine L.S (S.ap (nn' := false) Tryd.underlying124 Y9) ?_
  refine L.Y Y.asg ?_
  refine AList.nil ?_
  obtain rfl := Option.some.inj h
  refine AWp.ret ?_
  exact ⟨.inr rfl, [(4, _)], _, ⟨rfl, rfl⟩, IsPart.at [] [0] base0 (H.c .nil) (E.c .nil)⟩

/-! ### spec_ParseTable: function 52 -/
mutual
def spec_ParseTable.l0 : Nat → ByteArray → List ByteArray → Int → Int → Int → Int → List Int → Option (Int × Int × List Int × Bool)
 | 0, _, _, _, _, _, _, _ => none
 | k + 1, x0, x19, x20, x21, x416000, x416001, x416002 => if x21 < x20 then (if 0 ≤ x21 then (if x21 < (x19.length : Int) then (if ((Enc.rd x19 x21).size : Int) > 6 then (some (0, 0, ([] : List Int), false)) else (spec_ParseTable.l1 k x0 (Enc.rd x19 x21) 0 0 x19 x20 x21 x416000 x416001 x416002)) else (none)) else (none)) else ((spec_feGood.f k x416000 x416001 x416002).bind fun t420 => (if t420 = true then ((spec_feText.f k x416000 x416001 x416002).bind fun t421 => (if t421.toList = x0.toList then (some (x416000, x416001, x416002, true)) else (some (0, 0, ([] : List Int), false)))) else (some (0, 0, ([] : List Int), false))))
def spec_ParseTable.l1 : Nat → ByteArray → ByteArray → Int → Int → List ByteArray → Int → Int → Int → Int → List Int → Option (Int × Int × List Int × Bool)
 | 0, _, _, _, _, _, _, _, _, _, _ => none
 | k + 1, x0, x7, x8, x9, x19, x20, x21, x416000, x416001, x416002 => if x9 < (x7.size : Int) then (if 0 ≤ x9 then (if (bt x7 x9) = 49 then (spec_ParseTable.l1 k x0 x7 (Go.bits .or .i64 x8 (shl .i64 1 x9)) (wrap64 (x9 + 1)) x19 x20 x21 x416000 x416001 x416002) else (spec_ParseTable.l1 k x0 x7 x8 (wrap64 (x9 + 1)) x19 x20 x21 x416000 x416001 x416002)) else (none)) else (if x416002.length < 17592186044416 then (spec_ParseTable.l0 k x0 x19 x20 (wrap64 (x21 + 1)) x416000 x416001 (x416002 ++ [x8])) else (none))
end
def spec_ParseTable.f (k : Nat) (a0 : ByteArray) : Option (Int × Int × List Int × Bool) := (spec_l1Split.f k a0 47).bind fun t411 => (if 0 < (t411.length : Int) then (spec_ParseTable.l0 k a0 t411 (t411.length : Int) 0 (t411.length : Int) ((Enc.rd t411 0).size : Int) ([] : List Int)) else (none))
set_option maxRecDepth 100000 in
set_option maxHeartbeats 20000000 in
theorem spec_ParseTable.ac (k : Nat) (a0 : ByteArray) (r1 : Int) (r2 : Int) (r3 : List Int) (r4 : Bool) (h : spec_ParseTable.f k a0 = some (r1, r2, r3, r4)) :
  ACalls Tryd.prog 52 [.lit (.string a0)] [] (fun v H' => v = .tup [.agg [.lit (.int .i64 r1), .lit (.int .i64 r2), .own 0 r3.length], .lit (.bool r4)] ∧ H' = [.sl 3 1 r3.length false (ints .i64 r3)]) := by
 refine ACalls.ofV Tryd.func52 rfl (by exact Nat.le_of_ble_eq_true rfl) ?_
 simp only [Tryd.ntmps52, env0, spec_ParseTable.f] at h ⊢
 refine AWp.seq ?_
 refine AWp.region ?_
 refine L.M (M.al Y59) ?_
 refine L.Y Y.asg ?_
 refine AList.nil ?_
 refine AWp.seq ?_
 refine AWp.region ?_
 refine L.Y Y.mv ?_
 replace h := Option.bind_eq_some_iff.1 h
 obtain ⟨t411, hc1, h⟩ := h
 repeat (first | (rw [iN] at h; obtain ⟨_, h⟩ := h) | (rw [iP] at h; obtain ⟨_, h⟩ := h) | (simp only [bS] at h))
 refine L.C (C.callE (l := true) [] Tryd.func124 (spec_l1Split.ac _ _ _ _ hc1) .nil ?_)
 refine L.Y Y.asg ?_
 refine AList.nil ?_
 refine AWp.seq ?_
 refine AWp.region ?_
 refine L.Y Y.mv ?_
 refine L.Y (Y.ln Tryd.underlying124) ?_
 refine L.Y Y.mv ?_
 refine L.Y (Y.ixo Tryd.underlying124 Y9) ?_
 refine L.S (S.ldT 1 0 Tryd.underlying9 en_str) ?_
 refine L.Y (Y.ls Tryd.underlying9) ?_
 refine L.Y (Y.bd Tryd.underlying59 Y59 P59) ?_
 refine L.M (M.al Y59) ?_
 refine L.S (S.stb Y59) ?_
 refine AList.nil ?_
 refine AWp.seq ?_
 refine AWp.seq ?_
 refine W.kp [0, 2, 3, 4, 5] ?_
 refine AWp.region ?_
 refine L.Y Y.mv ?_
 refine L.Y (Y.ln Tryd.underlying124) ?_
 refine L.Y Y.mv ?_
 refine AList.nil ?_
 refine AWp.block ?_
 refine AWp.loopI (fun kk e H => kk ≤ k ∧ ∃ (x0 : ByteArray) (x19 : List ByteArray) (x20 : Int) (x21 : Int) (x411000 : Int) (x411001 : Int) (x416000 : Int) (x416001 : Int) (x416002 : List Int), e = [(0, .lit (.string x0)), (2, .ptr 0 0), (5, .ptr 1 0), (19, .own 2 x19.length), (20, .lit (.int .i64 x20)), (21, .lit (.int .i64 x21))] ∧ H = [.bx 59 [.lit (.int .i64 x411000), .lit (.int .i64 x411001), .lit (.slice none 0 0)], .bx 59 [.lit (.int .i64 x416000), .lit (.int .i64 x416001), .own 3 x416002.length], .sl 9 1 x19.length false (Enc.cells x19), .sl 3 1 x416002.length false (ints .i64 x416002)] ∧ spec_ParseTable.l0 kk x0 x19 x20 x21 x416000 x416001 x416002 = some (r1, r2, r3, r4)) (k := k)
  ⟨_, _, ⟨Nat.le_refl _, _, _, _, _, _, _, _, _, _, rfl, rfl, h⟩, IsPart.at [(3, 1)] [0, 2, 1, 3] base0 (H.c (H.c (H.c (H.c .nil)))) (E.c (E.c (E.c (E.c (E.c (E.c .nil))))))⟩ ?_
 clear h
 rintro k2 e H ⟨hk3, x0, x19, x20, x21, x411000, x411001, x416000, x416001, x416002, rfl, rfl, h⟩
 cases k2 with
 | zero => exact absurd h (by simp [spec_ParseTable.l0])
 | succ k2 =>
 simp only [spec_ParseTable.l0] at h
 refine AWp.seq ?_
 refine AWp.region ?_
 refine L.Y Y.bin ?_
 refine AList.nil ?_
 refine AWp.seq ?_
 refine W.cond (fun hb => ?_) (fun hb => ?_)
 ·
  have hb4 := hb
  try simp only [hS, hE, ne_eq] at hb
  first | rw [if_pos hb4] at h | rw [if_neg (Bool.eq_false_iff.1 hb4)] at h | rw [if_pos hb] at h | rw [if_neg hb] at h | (simp only [hb, hT, reduceIte] at h) | skip
  repeat (first | (rw [iN] at h; obtain ⟨_, h⟩ := h) | (rw [iP] at h; obtain ⟨_, h⟩ := h) | (simp only [bS] at h))
  refine AWp.skip ?_
  refine AWp.seq ?_
  refine AWp.block ?_
  refine AWp.seq ?_
  refine AWp.region ?_
  refine L.Y (Y.ixo Tryd.underlying124 Y9) ?_
  refine L.S (S.ldT 1 0 Tryd.underlying9 en_str) ?_
  refine L.Y Y.asg ?_
  refine AList.nil ?_
  refine AWp.seq ?_
  refine AWp.seq ?_
  refine AWp.region ?_
  refine L.Y Y.mv ?_
  refine L.Y (Y.ls Tryd.underlying9) ?_
  refine L.Y Y.bin ?_
  refine AList.nil ?_
  refine W.cond (fun hb => ?_) (fun hb => ?_)
  ·
   have hb5 := hb
   try simp only [hS, hE, ne_eq] at hb
   first | rw [if_pos hb5] at h | rw [if_neg (Bool.eq_false_iff.1 hb5)] at h | rw [if_pos hb] at h | rw [if_neg hb] at h | (simp only [hb, hT, reduceIte] at h) | skip
   refine AWp.seq ?_
   refine W.kp [0, 2, 5, 7, 19, 20, 21, 22, 27] ?_
   refine AWp.region ?_
   refine L.Y (Y.bd Tryd.underlying59 Y59 P59) ?_
   refine L.S (S.stb Y59) ?_
   refine L.Y Y.asg ?_
   refine AList.nil ?_
   simp only [Option.some.injEq, Prod.mk.injEq] at h
   obtain ⟨rfl, rfl, rfl, rfl⟩ := h
   refine AWp.ret ?_
   exact ⟨.inr rfl, _, _, _, Res.c2 Tryd.underlying59 Y59, ⟨rfl, rfl⟩, PartV.at [(3, 1)] [4] base0 (H.c .nil)⟩
  ·
   have hb5 := hb
   try simp only [hS, hE, ne_eq] at hb
   first | rw [if_pos hb5] at h | rw [if_neg (Bool.eq_false_iff.1 hb5)] at h | rw [if_pos hb] at h | rw [if_neg hb] at h | (simp only [hb, hT, reduceIte] at h) | skip
   refine AWp.skip ?_
   refine AWp.seq ?_
   refine W.kp [0, 2, 5, 7, 19, 20, 21, 22, 27] ?_
   refine AWp.region ?_
   refine L.Y Y.asg ?_
   refine AList.nil ?_
   refine AWp.seq ?_
   refine AWp.seq ?_
   refine AWp.region ?_
   refine L.Y Y.asg ?_
   refine AList.nil ?_
   refine AWp.block ?_
   refine AWp.loopI (fun kk e H => kk ≤ k2 ∧ ∃ (x0 : ByteArray) (x7 : ByteArray) (x8 : Int) (x9 : Int) (x19 : List ByteArray) (x20 : Int) (x21 : Int) (x411000 : Int) (x411001 : Int) (x416000 : Int) (x416001 : Int) (x416002 : List Int), e = [(0, .lit (.string x0)), (2, .ptr 0 0), (5, .ptr 1 0), (7, .lit (.string x7)), (8, .lit (.int .i64 x8)), (9, .lit (.int .i64 x9)), (19, .own 2 x19.length), (20, .lit (.int .i64 x20)), (21, .lit (.int .i64 x21))] ∧ H = [.bx 59 [.lit (.int .i64 x411000), .lit (.int .i64 x411001), .lit (.slice none 0 0)], .bx 59 [.lit (.int .i64 x416000), .lit (.int .i64 x416001), .own 3 x416002.length], .sl 9 1 x19.length false (Enc.cells x19), .sl 3 1 x416002.length false (ints .i64 x416002)] ∧ spec_ParseTable.l1 kk x0 x7 x8 x9 x19 x20 x21 x416000 x416001 x416002 = some (r1, r2, r3, r4)) (k := k2)
    ⟨_, _, ⟨Nat.le_refl _, _, _, _, _, _, _, _, _, _, _, _, _, rfl, rfl, h⟩, IsPart.at [] [0, 1, 2, 3] base0 (H.c (H.c (H.c (H.c .nil)))) (E.c (E.c (E.c (E.c (E.c (E.c (E.c (E.c (E.c .nil)))))))))⟩ ?_
   clear h
   rintro k6 e H ⟨hk7, x0, x7, x8, x9, x19, x20, x21, x411000, x411001, x416000, x416001, x416002, rfl, rfl, h⟩
   cases k6 with
   | zero => exact absurd h (by simp [spec_ParseTable.l1])
   | succ k6 =>
   simp only [spec_ParseTable.l1] at h
   refine AWp.seq ?_
   refine AWp.seq ?_
   refine AWp.region ?_
   refine L.Y Y.mv ?_
   refine L.Y Y.mv ?_
   refine L.Y (Y.ls Tryd.underlying9) ?_
   refine L.Y Y.bin ?_
   refine AList.nil ?_
   refine W.cond (fun hb => ?_) (fun hb => ?_)
   ·
    have hb8 := hb
    try simp only [hS, hE, ne_eq] at hb
    first | rw [if_pos hb8] at h | rw [if_neg (Bool.eq_false_iff.1 hb8)] at h | rw [if_pos hb] at h | rw [if_neg hb] at h | (simp only [hb, hT, reduceIte] at h) | skip
    repeat (first | (rw [iN] at h; obtain ⟨_, h⟩ := h) | (rw [iP] at h; obtain ⟨_, h⟩ := h) | (simp only [bS] at h))
    refine AWp.skip ?_
    refine AWp.seq ?_
    refine AWp.block ?_
    refine AWp.seq ?_
    refine AWp.region ?_
    refine L.Y Y.mv ?_
    refine L.Y Y.mv ?_
    refine L.Y (Y.ixs Tryd.underlying9) ?_
    refine L.Y Y.bin ?_
    refine AList.nil ?_
    refine W.cond (fun hb => ?_) (fun hb => ?_)
    ·
     have hb9 := hb
     try simp only [hS, hE, ne_eq] at hb
     first | rw [if_pos hb9] at h | rw [if_neg (Bool.eq_false_iff.1 hb9)] at h | rw [if_pos hb] at h | rw [if_neg hb] at h | (simp only [hb, hT, reduceIte] at h) | skip
     refine W.kp [0, 2, 5, 7, 8, 9, 19, 20, 21, 32, 38] ?_
     refine AWp.region ?_
     refine L.Y Y.mv ?_
     refine L.Y Y.mv ?_
     refine L.Y Y.bin ?_
     refine L.Y Y.bin ?_
     refine L.Y Y.asg ?_
     refine AList.nil ?_
     refine W.kp [0, 2, 5, 7, 8, 9, 19, 20, 21, 32, 38] ?_
     refine AWp.region ?_
     refine L.Y Y.mv ?_
     refine L.Y Y.bin ?_
     refine L.Y Y.asg ?_
     refine AList.nil ?_
     exact ⟨k6, by omega, _, _, ⟨by omega, _, _, _, _, _, _, _, _, _, _, _, _, rfl, rfl, h⟩, IsPart.at [] [0, 1, 2, 3] base0 (H.c (H.c (H.c (H.c .nil)))) (E.c (E.c (E.c (E.c (E.c (E.c (E.c (E.c (E.c .nil)))))))))⟩
    ·
     have hb9 := hb
     try simp only [hS, hE, ne_eq] at hb
     first | rw [if_pos hb9] at h | rw [if_neg (Bool.eq_false_iff.1 hb9)] at h | rw [if_pos hb] at h | rw [if_neg hb] at h | (simp only [hb, hT, reduceIte] at h) | skip
     refine AWp.skip ?_
     refine W.kp [0, 2, 5, 7, 8, 9, 19, 20, 21, 32, 38] ?_
     refine AWp.region ?_
     refine L.Y Y.mv ?_
     refine L.Y Y.bin ?_
     refine L.Y Y.asg ?_
     refine AList.nil ?_
     exact ⟨k6, by omega, _, _, ⟨by omega, _, _, _, _, _, _, _, _, _, _, _, _, rfl, rfl, h⟩, IsPart.at [] [0, 1, 2, 3] base0 (H.c (H.c (H.c (H.c .nil)))) (E.c (E.c (E.c (E.c (E.c (E.c (E.c (E.c (E.c .nil)))))))))⟩
   ·
    have hb8 := hb
    try simp only [hS, hE, ne_eq] at hb
    first | rw [if_pos hb8] at h | rw [if_neg (Bool.eq_false_iff.1 hb8)] at h | rw [if_pos hb] at h | rw [if_neg hb] at h | (simp only [hb, hT, reduceIte] at h) | skip
    repeat (first | (rw [iN] at h; obtain ⟨_, h⟩ := h) | (rw [iP] at h; obtain ⟨_, h⟩ := h) | (simp only [bS] at h))
    refine AWp.exit ?_
    refine AWp.region ?_
    refine L.Y (Y.fa (off := 2) Tryd.underlying59 Y22) ?_
    refine L.S (S.ld Tryd.underlying22) ?_
    refine L.Y Y.mv ?_
    refine L.M (M.bs Tryd.underlying22 Y3) ?_
    refine L.S (S.ap (nn' := false) Tryd.underlying22 Y3) ?_
    refine L.Y (Y.fa (off := 2) Tryd.underlying59 Y22) ?_
    refine L.S (S.stb Y22) ?_
    refine AList.nil ?_
    refine W.kp [0, 2, 5, 7, 8, 9, 19, 20, 21, 32] ?_
    refine AWp.region ?_
    refine L.Y Y.bin ?_
    refine L.Y Y.mv ?_
    refine AList.nil ?_
    exact ⟨k6, by omega, _, _, ⟨by omega, _, _, _, _, _, _, _, _, _, rfl, rfl, h⟩, IsPart.at [] [0, 1, 2, 3] base0 (H.c (H.c (H.c (H.c .nil)))) (E.c (E.c (E.c (E.c (E.c (E.c .nil))))))⟩
 ·
  have hb4 := hb
  try simp only [hS, hE, ne_eq] at hb
  first | rw [if_pos hb4] at h | rw [if_neg (Bool.eq_false_iff.1 hb4)] at h | rw [if_pos hb] at h | rw [if_neg hb] at h | (simp only [hb, hT, reduceIte] at h) | skip
  refine AWp.exit ?_
  refine AWp.seq ?_
  refine AWp.seq ?_
  refine AWp.region ?_
  refine L.S (S.ldN Tryd.underlying59 Y59) ?_
  replace h := Option.bind_eq_some_iff.1 h
  obtain ⟨t420, hc10, h⟩ := h
  refine L.C (C.callE (l := true) [] Tryd.func108 (spec_feGood.ac _ _ _ _ _ hc10) .nil ?_)
  refine L.Y Y.nt ?_
  refine L.Y Y.mv ?_
  refine L.Gc (fun hb => ?_) (fun hb => ?_)
  ·
   have hb11 := hb
   try simp only [hS, hE, ne_eq] at hb
   first | rw [if_pos hb11] at h | rw [if_neg (Bool.eq_false_iff.1 hb11)] at h | rw [if_pos hb] at h | rw [if_neg hb] at h | (simp only [hb, hT, reduceIte] at h) | skip
   refine L.Gn hb11 ?_
   refine L.Gn hb11 ?_
   refine L.Gn hb11 ?_
   refine L.Gn hb11 ?_
   refine L.Y (Y.pk (c := true) hb11) ?_
   refine AList.nil ?_
   refine W.cond (fun hb => ?_) (fun hb => ?_)
   rotate_left
   ·
    first | exact Bool.false_ne_true ((Eq.symm (by assumption)).trans hb) | exact Bool.false_ne_true (hb.symm.trans (by assumption)) | exact DD hb
   have hb12 := hb
   refine AWp.seq ?_
   refine W.kp [0, 2, 5, 19, 20, 21, 22, 58] ?_
   refine AWp.region ?_
   refine L.Y (Y.bd Tryd.underlying59 Y59 P59) ?_
   refine L.S (S.stb Y59) ?_
   refine L.Y Y.asg ?_
   refine AList.nil ?_
   simp only [Option.some.injEq, Prod.mk.injEq] at h
   obtain ⟨rfl, rfl, rfl, rfl⟩ := h
   refine AWp.ret ?_
   exact ⟨.inr rfl, _, _, _, Res.c2 Tryd.underlying59 Y59, ⟨rfl, rfl⟩, PartV.at [(3, 1)] [4] base0 (H.c .nil)⟩
  ·
   have hb11 := hb
   try simp only [hS, hE, ne_eq] at hb
   first | rw [if_pos hb11] at h | rw [if_neg (Bool.eq_false_iff.1 hb11)] at h | rw [if_pos hb] at h | rw [if_neg hb] at h | (simp only [hb, hT, reduceIte] at h) | skip
   refine L.Gs hb11 (S.ldN Tryd.underlying59 Y59) ?_
   replace h := Option.bind_eq_some_iff.1 h
   obtain ⟨t421, hc13, h⟩ := h
   refine L.GC hb11 (C.callE (l := true) [] Tryd.func122 (spec_feText.ac _ _ _ _ _ hc13) .nil ?_)
   refine L.Gy hb11 Y.mv ?_
   refine L.Gy hb11 Y.bin ?_
   refine L.Y (Y.pk (c := false) hb11) ?_
   refine AList.nil ?_
   refine W.cond (fun hb => ?_) (fun hb => ?_)
   ·
    have hb14 := hb
    try simp only [hS, hE, ne_eq] at hb
    first | rw [if_pos hb14] at h | rw [if_neg (Bool.eq_false_iff.1 hb14)] at h | rw [if_pos hb] at h | rw [if_neg hb] at h | (simp only [hb, hT, reduceIte] at h) | skip
    refine AWp.seq ?_
    refine W.kp [0, 2, 5, 19, 20, 21, 22, 58] ?_
    refine AWp.region ?_
    refine L.Y (Y.bd Tryd.underlying59 Y59 P59) ?_
    refine L.S (S.stb Y59) ?_
    refine L.Y Y.asg ?_
    refine AList.nil ?_
    simp only [Option.some.injEq, Prod.mk.injEq] at h
    obtain ⟨rfl, rfl, rfl, rfl⟩ := h
    refine AWp.ret ?_
    exact ⟨.inr rfl, _, _, _, Res.c2 Tryd.underlying59 Y59, ⟨rfl, rfl⟩, PartV.at [(3, 1)] [4] base0 (H.c .nil)⟩
   ·
    have hb14 := hb
    try simp only [hS, hE, ne_eq] at hb
    first | rw [if_pos hb14] at h | rw [if_neg (Bool.eq_false_iff.1 hb14)] at h | rw [if_pos hb] at h | rw [if_neg hb] at h | (simp only [hb, hT, reduceIte] at h) | skip
    refine AWp.skip ?_
    refine AWp.seq ?_
    refine W.kp [0, 2, 5, 19, 20, 21, 22, 58] ?_
    refine AWp.region ?_
    refine L.S (S.ldN Tryd.underlying59 Y59) ?_
    refine L.S (S.stb Y59) ?_
    refine L.Y Y.asg ?_
    refine AList.nil ?_
    simp only [Option.some.injEq, Prod.mk.injEq] at h
    obtain ⟨rfl, rfl, rfl, rfl⟩ := h
    refine AWp.ret ?_
    exact ⟨.inr rfl, _, _, _, Res.c2 Tryd.underlying59 Y59, ⟨rfl, rfl⟩, PartV.at [] [3] base0 (H.c .nil)⟩

end Go.Proofs.YtakabmokpknknaaDoor.PFnTablesTurned
