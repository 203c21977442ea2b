-- Written by a program of this session's (wip/myprint2): the functions by the kit's print, the walks by awgen.py. Lean checks it.
import Derived.Test.YtikhopopiaanmaaDoorPFnExactParseTablex0
import Derived.Test.YtikhopopiaanmaaDoorPFnExactParseTablex1
namespace Go.Proofs.YtikhopopiaanmaaDoor.PFnExactParseTable
open Go.RowKit Go.Proofs.YtikhopopiaanmaaDoorW.PrintWords Go.Proofs.YtikhopopiaanmaaDoorW.PrintLast Go.Proofs.YtikhopopiaanmaaDoorW.PrintMore Go.Proofs.YtikhopopiaanmaaDoorM Go.Proofs.YtikhopopiaanmaaDoorA Go.Proofs.YtikhopopiaanmaaDoorT
attribute [local go_sem] max2_int min2_int max_two min_two max_three min_three max_four min_four   -- for this text's walks alone
set_option linter.unusedVariables false
set_option linter.unusedSimpArgs false

/-! ### spec_ParseTable: function 4 -/
mutual
def spec_ParseTable.l0 : Nat → ByteArray → List ByteArray → Int → Int → Int → Int → List Int → Option (Int × Int × List Int × Bool)
 | 0, _, _, _, _, _, _, _ => none
 | k + 1, x0, x19, x20, x21, x122000, x122001, x122002 => if x21 < x20 then (if 0 ≤ x21 then (if x21 < (x19.length : Int) then (if ((Enc.rd x19 x21).size : Int) > 6 then (some (0, 0, ([] : List Int), false)) else (spec_ParseTable.l1 k x0 (Enc.rd x19 x21) 0 0 x19 x20 x21 x122000 x122001 x122002)) else (none)) else (none)) else ((spec_feGood.f k x122000 x122001 x122002).bind fun t126 => (if t126 = true then ((spec_feText.f k x122000 x122001 x122002).bind fun t127 => (if t127.toList = x0.toList then (some (x122000, x122001, x122002, true)) else (some (0, 0, ([] : List Int), false)))) else (some (0, 0, ([] : List Int), false))))
def spec_ParseTable.l1 : Nat → ByteArray → ByteArray → Int → Int → List ByteArray → Int → Int → Int → Int → List Int → Option (Int × Int × List Int × Bool)
 | 0, _, _, _, _, _, _, _, _, _, _ => none
 | k + 1, x0, x7, x8, x9, x19, x20, x21, x122000, x122001, x122002 => if x9 < (x7.size : Int) then (if 0 ≤ x9 then (if (bt x7 x9) = 49 then (spec_ParseTable.l1 k x0 x7 (Go.bits .or .i64 x8 (shl .i64 1 x9)) (wrap64 (x9 + 1)) x19 x20 x21 x122000 x122001 x122002) else (spec_ParseTable.l1 k x0 x7 x8 (wrap64 (x9 + 1)) x19 x20 x21 x122000 x122001 x122002)) else (none)) else (if x122002.length < 17592186044416 then (spec_ParseTable.l0 k x0 x19 x20 (wrap64 (x21 + 1)) x122000 x122001 (x122002 ++ [x8])) else (none))
end
def spec_ParseTable.f (k : Nat) (a0 : ByteArray) : Option (Int × Int × List Int × Bool) := (spec_l1Split.f k a0 47).bind fun t117 => (if 0 < (t117.length : Int) then (spec_ParseTable.l0 k a0 t117 (t117.length : Int) 0 (t117.length : Int) ((Enc.rd t117 0).size : Int) ([] : List Int)) else (none))
set_option maxRecDepth 100000 in
set_option maxHeartbeats 20000000 in
theorem spec_ParseTable.ac (k : Nat) (a0 : ByteArray) (r1 : Int) (r2 : Int) (r3 : List Int) (r4 : Bool) (h : spec_ParseTable.f k a0 = some (r1, r2, r3, r4)) :
  ACalls Tryd.prog 4 [.lit (.string a0)] [] (fun v H' => v = .tup [.agg [.lit (.int .i64 r1), .lit (.int .i64 r2), .own 0 r3.length], .lit (.bool r4)] ∧ H' = [.sl 3 1 r3.length false (ints .i64 r3)]) := by
 refine ACalls.ofV Tryd.func4 rfl (by exact Nat.le_of_ble_eq_true rfl) ?_
 simp only [Tryd.ntmps4, env0, spec_ParseTable.f] at h ⊢
 refine AWp.seq ?_
 refine AWp.region ?_
 refine L.M (M.al Y24) ?_
 refine L.Y Y.asg ?_
 refine AList.nil ?_
 refine AWp.seq ?_
 refine AWp.region ?_
 refine L.Y Y.mv ?_
 replace h := Option.bind_eq_some_iff.1 h
 obtain ⟨t117, hc1, h⟩ := h
 repeat (first | (rw [iN] at h; obtain ⟨_, h⟩ := h) | (rw [iP] at h; obtain ⟨_, h⟩ := h) | (simp only [bS] at h))
 refine L.C (C.callE (l := true) [] Tryd.func9 (spec_l1Split.ac _ _ _ _ hc1) .nil ?_)
 refine L.Y Y.asg ?_
 refine AList.nil ?_
 refine AWp.seq ?_
 refine AWp.region ?_
 refine L.Y Y.mv ?_
 refine L.Y (Y.ln Tryd.underlying30) ?_
 refine L.Y Y.mv ?_
 refine L.Y (Y.ixo Tryd.underlying30 Y9) ?_
 refine L.S (S.ldT 1 0 Tryd.underlying9 en_str) ?_
 refine L.Y (Y.ls Tryd.underlying9) ?_
 refine L.Y (Y.bd Tryd.underlying24 Y24 P24) ?_
 refine L.M (M.al Y24) ?_
 refine L.S (S.stb Y24) ?_
 refine AList.nil ?_
 refine AWp.seq ?_
 refine AWp.seq ?_
 refine W.kp [0, 2, 3, 4, 5] ?_
 refine AWp.region ?_
 refine L.Y Y.mv ?_
 refine L.Y (Y.ln Tryd.underlying30) ?_
 refine L.Y Y.mv ?_
 refine AList.nil ?_
 refine AWp.block ?_
 refine AWp.loopI (fun kk e H => kk ≤ k ∧ ∃ (x0 : ByteArray) (x19 : List ByteArray) (x20 : Int) (x21 : Int) (x117000 : Int) (x117001 : Int) (x122000 : Int) (x122001 : Int) (x122002 : List Int), e = [(0, .lit (.string x0)), (2, .ptr 0 0), (5, .ptr 1 0), (19, .own 2 x19.length), (20, .lit (.int .i64 x20)), (21, .lit (.int .i64 x21))] ∧ H = [.bx 24 [.lit (.int .i64 x117000), .lit (.int .i64 x117001), .lit (.slice none 0 0)], .bx 24 [.lit (.int .i64 x122000), .lit (.int .i64 x122001), .own 3 x122002.length], .sl 9 1 x19.length false (Enc.cells x19), .sl 3 1 x122002.length false (ints .i64 x122002)] ∧ spec_ParseTable.l0 kk x0 x19 x20 x21 x122000 x122001 x122002 = some (r1, r2, r3, r4)) (k := k)
  ⟨_, _, ⟨Nat.le_refl _, _, _, _, _, _, _, _, _, _, rfl, rfl, h⟩, IsPart.at [(3, 1)] [0, 2, 1, 3] base0 (H.c (H.c (H.c (H.c .nil)))) (E.c (E.c (E.c (E.c (E.c (E.c .nil))))))⟩ ?_
 clear h
 rintro k2 e H ⟨hk3, x0, x19, x20, x21, x117000, x117001, x122000, x122001, x122002, rfl, rfl, h⟩
 cases k2 with
 | zero => exact absurd h (by simp [spec_ParseTable.l0])
 | succ k2 =>
 simp only [spec_ParseTable.l0] at h
 refine AWp.seq ?_
 refine AWp.region ?_
 refine L.Y Y.bin ?_
 refine AList.nil ?_
 refine AWp.seq ?_
 refine W.cond (fun hb => ?_) (fun hb => ?_)
 ·
  have hb4 := hb
  try simp only [hS, hE, ne_eq] at hb
  first | rw [if_pos hb4] at h | rw [if_neg (Bool.eq_false_iff.1 hb4)] at h | rw [if_pos hb] at h | rw [if_neg hb] at h | (simp only [hb, hT, reduceIte] at h) | skip
  repeat (first | (rw [iN] at h; obtain ⟨_, h⟩ := h) | (rw [iP] at h; obtain ⟨_, h⟩ := h) | (simp only [bS] at h))
  refine AWp.skip ?_
  refine AWp.seq ?_
  refine AWp.block ?_
  refine AWp.seq ?_
  refine AWp.region ?_
  refine L.Y (Y.ixo Tryd.underlying30 Y9) ?_
  refine L.S (S.ldT 1 0 Tryd.underlying9 en_str) ?_
  refine L.Y Y.asg ?_
  refine AList.nil ?_
  refine AWp.seq ?_
  refine AWp.seq ?_
  refine AWp.region ?_
  refine L.Y Y.mv ?_
  refine L.Y (Y.ls Tryd.underlying9) ?_
  refine L.Y Y.bin ?_
  refine AList.nil ?_
  refine W.cond (fun hb => ?_) (fun hb => ?_)
  ·
   have hb5 := hb
   try simp only [hS, hE, ne_eq] at hb
   first | rw [if_pos hb5] at h | rw [if_neg (Bool.eq_false_iff.1 hb5)] at h | rw [if_pos hb] at h | rw [if_neg hb] at h | (simp only [hb, hT, reduceIte] at h) | skip
   refine AWp.seq ?_
   refine W.kp [0, 2, 5, 7, 19, 20, 21, 22, 27] ?_
   refine AWp.region ?_
   refine L.Y (Y.bd Tryd.underlying24 Y24 P24) ?_
   refine L.S (S.stb Y24) ?_
   refine L.Y Y.asg ?_
   refine AList.nil ?_
   simp only [Option.some.injEq, Prod.mk.injEq] at h
   obtain ⟨rfl, rfl, rfl, rfl⟩ := h
   refine AWp.ret ?_
   exact ⟨.inr rfl, _, _, _, Res.c2 Tryd.underlying24 Y24, ⟨rfl, rfl⟩, PartV.at [(3, 1)] [4] base0 (H.c .nil)⟩
  ·
   have hb5 := hb
   try simp only [hS, hE, ne_eq] at hb
   first | rw [if_pos hb5] at h | rw [if_neg (Bool.eq_false_iff.1 hb5)] at h | rw [if_pos hb] at h | rw [if_neg hb] at h | (simp only [hb, hT, reduceIte] at h) | skip
   refine AWp.skip ?_
   refine AWp.seq ?_
   refine W.kp [0, 2, 5, 7, 19, 20, 21, 22, 27] ?_
   refine AWp.region ?_
   refine L.Y Y.asg ?_
   refine AList.nil ?_
   refine AWp.seq ?_
   refine AWp.seq ?_
   refine AWp.region ?_
   refine L.Y Y.asg ?_
   refine AList.nil ?_
   refine AWp.block ?_
   refine AWp.loopI (fun kk e H => kk ≤ k2 ∧ ∃ (x0 : ByteArray) (x7 : ByteArray) (x8 : Int) (x9 : Int) (x19 : List ByteArray) (x20 : Int) (x21 : Int) (x117000 : Int) (x117001 : Int) (x122000 : Int) (x122001 : Int) (x122002 : List Int), e = [(0, .lit (.string x0)), (2, .ptr 0 0), (5, .ptr 1 0), (7, .lit (.string x7)), (8, .lit (.int .i64 x8)), (9, .lit (.int .i64 x9)), (19, .own 2 x19.length), (20, .lit (.int .i64 x20)), (21, .lit (.int .i64 x21))] ∧ H = [.bx 24 [.lit (.int .i64 x117000), .lit (.int .i64 x117001), .lit (.slice none 0 0)], .bx 24 [.lit (.int .i64 x122000), .lit (.int .i64 x122001), .own 3 x122002.length], .sl 9 1 x19.length false (Enc.cells x19), .sl 3 1 x122002.length false (ints .i64 x122002)] ∧ spec_ParseTable.l1 kk x0 x7 x8 x9 x19 x20 x21 x122000 x122001 x122002 = some (r1, r2, r3, r4)) (k := k2)
    ⟨_, _, ⟨Nat.le_refl _, _, _, _, _, _, _, _, _, _, _, _, _, rfl, rfl, h⟩, IsPart.at [] [0, 1, 2, 3] base0 (H.c (H.c (H.c (H.c .nil)))) (E.c (E.c (E.c (E.c (E.c (E.c (E.c (E.c (E.c .nil)))))))))⟩ ?_
   clear h
   rintro k6 e H ⟨hk7, x0, x7, x8, x9, x19, x20, x21, x117000, x117001, x122000, x122001, x122002, rfl, rfl, h⟩
   cases k6 with
   | zero => exact absurd h (by simp [spec_ParseTable.l1])
   | succ k6 =>
   simp only [spec_ParseTable.l1] at h
   refine AWp.seq ?_
   refine AWp.seq ?_
   refine AWp.region ?_
   refine L.Y Y.mv ?_
   refine L.Y Y.mv ?_
   refine L.Y (Y.ls Tryd.underlying9) ?_
   refine L.Y Y.bin ?_
   refine AList.nil ?_
   refine W.cond (fun hb => ?_) (fun hb => ?_)
   ·
    have hb8 := hb
    try simp only [hS, hE, ne_eq] at hb
    first | rw [if_pos hb8] at h | rw [if_neg (Bool.eq_false_iff.1 hb8)] at h | rw [if_pos hb] at h | rw [if_neg hb] at h | (simp only [hb, hT, reduceIte] at h) | skip
    repeat (first | (rw [iN] at h; obtain ⟨_, h⟩ := h) | (rw [iP] at h; obtain ⟨_, h⟩ := h) | (simp only [bS] at h))
    refine AWp.skip ?_
    refine AWp.seq ?_
    refine AWp.block ?_
    refine AWp.seq ?_
    refine AWp.region ?_
    refine L.Y Y.mv ?_
    refine L.Y Y.mv ?_
    refine L.Y (Y.ixs Tryd.underlying9) ?_
    refine L.Y Y.bin ?_
    refine AList.nil ?_
    refine W.cond (fun hb => ?_) (fun hb => ?_)
    ·
     have hb9 := hb
     try simp only [hS, hE, ne_eq] at hb
     first | rw [if_pos hb9] at h | rw [if_neg (Bool.eq_false_iff.1 hb9)] at h | rw [if_pos hb] at h | rw [if_neg hb] at h | (simp only [hb, hT, reduceIte] at h) | skip
     refine W.kp [0, 2, 5, 7, 8, 9, 19, 20, 21, 32, 38] ?_
     refine AWp.region ?_
     refine L.Y Y.mv ?_
     refine L.Y Y.mv ?_
     refine L.Y Y.bin ?_
     refine L.Y Y.bin ?_
     refine L.Y Y.asg ?_
     refine AList.nil ?_
     refine W.kp [0, 2, 5, 7, 8, 9, 19, 20, 21, 32, 38] ?_
     refine AWp.region ?_
     refine L.Y Y.mv ?_
     refine L.Y Y.bin ?_
     refine L.Y Y.asg ?_
     refine AList.nil ?_
     exact ⟨k6, by omega, _, _, ⟨by omega, _, _, _, _, _, _, _, _, _, _, _, _, rfl, rfl, h⟩, IsPart.at [] [0, 1, 2, 3] base0 (H.c (H.c (H.c (H.c .nil)))) (E.c (E.c (E.c (E.c (E.c (E.c (E.c (E.c (E.c .nil)))))))))⟩
    ·
     have hb9 := hb
     try simp only [hS, hE, ne_eq] at hb
     first | rw [if_pos hb9] at h | rw [if_neg (Bool.eq_false_iff.1 hb9)] at h | rw [if_pos hb] at h | rw [if_neg hb] at h | (simp only [hb, hT, reduceIte] at h) | skip
     refine AWp.skip ?_
     refine W.kp [0, 2, 5, 7, 8, 9, 19, 20, 21, 32, 38] ?_
     refine AWp.region ?_
     refine L.Y Y.mv ?_
     refine L.Y Y.bin ?_
     refine L.Y Y.asg ?_
     refine AList.nil ?_
     exact ⟨k6, by omega, _, _, ⟨by omega, _, _, _, _, _, _, _, _, _, _, _, _, rfl, rfl, h⟩, IsPart.at [] [0, 1, 2, 3] base0 (H.c (H.c (H.c (H.c .nil)))) (E.c (E.c (E.c (E.c (E.c (E.c (E.c (E.c (E.c .nil)))))))))⟩
   ·
    have hb8 := hb
    try simp only [hS, hE, ne_eq] at hb
    first | rw [if_pos hb8] at h | rw [if_neg (Bool.eq_false_iff.1 hb8)] at h | rw [if_pos hb] at h | rw [if_neg hb] at h | (simp only [hb, hT, reduceIte] at h) | skip
    repeat (first | (rw [iN] at h; obtain ⟨_, h⟩ := h) | (rw [iP] at h; obtain ⟨_, h⟩ := h) | (simp only [bS] at h))
    refine AWp.exit ?_
    refine AWp.region ?_
    refine L.Y (Y.fa (off := 2) Tryd.underlying24 Y22) ?_
    refine L.S (S.ld Tryd.underlying22) ?_
    refine L.Y Y.mv ?_
    refine L.M (M.bs Tryd.underlying22 Y3) ?_
    refine L.S (S.ap (nn' := false) Tryd.underlying22 Y3) ?_
    refine L.Y (Y.fa (off := 2) Tryd.underlying24 Y22) ?_
    refine L.S (S.stb Y22) ?_
    refine AList.nil ?_
    refine W.kp [0, 2, 5, 7, 8, 9, 19, 20, 21, 32] ?_
    refine AWp.region ?_
    refine L.Y Y.bin ?_
    refine L.Y Y.mv ?_
    refine AList.nil ?_
    exact ⟨k6, by omega, _, _, ⟨by omega, _, _, _, _, _, _, _, _, _, rfl, rfl, h⟩, IsPart.at [] [0, 1, 2, 3] base0 (H.c (H.c (H.c (H.c .nil)))) (E.c (E.c (E.c (E.c (E.c (E.c .nil))))))⟩
 ·
  have hb4 := hb
  try simp only [hS, hE, ne_eq] at hb
  first | rw [if_pos hb4] at h | rw [if_neg (Bool.eq_false_iff.1 hb4)] at h | rw [if_pos hb] at h | rw [if_neg hb] at h | (simp only [hb, hT, reduceIte] at h) | skip
  refine AWp.exit ?_
  refine AWp.seq ?_
  refine AWp.seq ?_
  refine AWp.region ?_
  refine L.S (S.ldN Tryd.underlying24 Y24) ?_
  replace h := Option.bind_eq_some_iff.1 h
  obtain ⟨t126, hc10, h⟩ := h
  refine L.C (C.callE (l := true) [] Tryd.func10 (spec_feGood.ac _ _ _ _ _ hc10) .nil ?_)
  refine L.Y Y.nt ?_
  refine L.Y Y.mv ?_
  refine L.Gc (fun hb => ?_) (fun hb => ?_)
  ·
   have hb11 := hb
   try simp only [hS, hE, ne_eq] at hb
   first | rw [if_pos hb11] at h | rw [if_neg (Bool.eq_false_iff.1 hb11)] at h | rw [if_pos hb] at h | rw [if_neg hb] at h | (simp only [hb, hT, reduceIte] at h) | skip
   refine L.Gn hb11 ?_
   refine L.Gn hb11 ?_
   refine L.Gn hb11 ?_
   refine L.Gn hb11 ?_
   refine L.Y (Y.pk (c := true) hb11) ?_
   refine AList.nil ?_
   refine W.cond (fun hb => ?_) (fun hb => ?_)
   rotate_left
   ·
    first | exact Bool.false_ne_true ((Eq.symm (by assumption)).trans hb) | exact Bool.false_ne_true (hb.symm.trans (by assumption)) | exact DD hb
   have hb12 := hb
   refine AWp.seq ?_
   refine W.kp [0, 2, 5, 19, 20, 21, 22, 58] ?_
   refine AWp.region ?_
   refine L.Y (Y.bd Tryd.underlying24 Y24 P24) ?_
   refine L.S (S.stb Y24) ?_
   refine L.Y Y.asg ?_
   refine AList.nil ?_
   simp only [Option.some.injEq, Prod.mk.injEq] at h
   obtain ⟨rfl, rfl, rfl, rfl⟩ := h
   refine AWp.ret ?_
   exact ⟨.inr rfl, _, _, _, Res.c2 Tryd.underlying24 Y24, ⟨rfl, rfl⟩, PartV.at [(3, 1)] [4] base0 (H.c .nil)⟩
  ·
   have hb11 := hb
   try simp only [hS, hE, ne_eq] at hb
   first | rw [if_pos hb11] at h | rw [if_neg (Bool.eq_false_iff.1 hb11)] at h | rw [if_pos hb] at h | rw [if_neg hb] at h | (simp only [hb, hT, reduceIte] at h) | skip
   refine L.Gs hb11 (S.ldN Tryd.underlying24 Y24) ?_
   replace h := Option.bind_eq_some_iff.1 h
   obtain ⟨t127, hc13, h⟩ := h
   refine L.GC hb11 (C.callE (l := true) [] Tryd.func11 (spec_feText.ac _ _ _ _ _ hc13) .nil ?_)
   refine L.Gy hb11 Y.mv ?_
   refine L.Gy hb11 Y.bin ?_
   refine L.Y (Y.pk (c := false) hb11) ?_
   refine AList.nil ?_
   refine W.cond (fun hb => ?_) (fun hb => ?_)
   ·
    have hb14 := hb
    try simp only [hS, hE, ne_eq] at hb
    first | rw [if_pos hb14] at h | rw [if_neg (Bool.eq_false_iff.1 hb14)] at h | rw [if_pos hb] at h | rw [if_neg hb] at h | (simp only [hb, hT, reduceIte] at h) | skip
    refine AWp.seq ?_
    refine W.kp [0, 2, 5, 19, 20, 21, 22, 58] ?_
    refine AWp.region ?_
    refine L.Y (Y.bd Tryd.underlying24 Y24 P24) ?_
    refine L.S (S.stb Y24) ?_
    refine L.Y Y.asg ?_
    refine AList.nil ?_
    simp only [Option.some.injEq, Prod.mk.injEq] at h
    obtain ⟨rfl, rfl, rfl, rfl⟩ := h
    refine AWp.ret ?_
    exact ⟨.inr rfl, _, _, _, Res.c2 Tryd.underlying24 Y24, ⟨rfl, rfl⟩, PartV.at [(3, 1)] [4] base0 (H.c .nil)⟩
   ·
    have hb14 := hb
    try simp only [hS, hE, ne_eq] at hb
    first | rw [if_pos hb14] at h | rw [if_neg (Bool.eq_false_iff.1 hb14)] at h | rw [if_pos hb] at h | rw [if_neg hb] at h | (simp only [hb, hT, reduceIte] at h) | skip
    refine AWp.skip ?_
    refine AWp.seq ?_
    refine W.kp [0, 2, 5, 19, 20, 21, 22, 58] ?_
    refine AWp.region ?_
    refine L.S (S.ldN Tryd.underlying24 Y24) ?_
    refine L.S (S.stb Y24) ?_
    refine L.Y Y.asg ?_
    refine AList.nil ?_
    simp only [Option.some.injEq, Prod.mk.injEq] at h
    obtain ⟨rfl, rfl, rfl, rfl⟩ := h
    refine AWp.ret ?_
    exact ⟨.inr rfl, _, _, _, Res.c2 Tryd.underlying24 Y24, ⟨rfl, rfl⟩, PartV.at [] [3] base0 (H.c .nil)⟩

-- NOT PRINTED: function 34 (utf8_RuneCountInString)

-- NOT PRINTED: function 40 (utf8_decodeRuneInStringSlow)

-- NOT PRINTED: function 35 (utf8_DecodeRuneInString)

-- NOT PRINTED: function 28 (strings_explode)

-- NOT PRINTED: function 47 (bytealg_IndexByteString)

-- NOT PRINTED: function 41 (stringslite_IndexByte)

-- NOT PRINTED: function 42 (bytealg_IndexString)

-- NOT PRINTED: function 43 (bytealg_Cutover)

-- NOT PRINTED: function 48 (bytealg_hashStr_string)

-- NOT PRINTED: function 44 (bytealg_IndexRabinKarp_string)

-- NOT PRINTED: function 37 (stringslite_Index)

-- NOT PRINTED: function 30 (strings_Index)

-- NOT PRINTED: function 36 (bytealg_CountString)

-- NOT PRINTED: function 29 (strings_Count)

-- NOT PRINTED: function 23 (strings_genSplit)

/-! ### strings_Split: function 12 -/
def strings_Split.ren : Go.Shelf.Ren := ⟨fun | 146 => 12 | 221 => 23 | 268 => 28 | 138 => 29 | 143 => 30 | 195 => 34 | 197 => 35 | 218 => 36 | 219 => 37 | 260 => 40 | 217 => 41 | 225 => 42 | 224 => 43 | 267 => 44 | 266 => 47 | 314 => 48 | n => n, fun | 9 => 9 | 31 => 30 | 3 => 3 | 4 => 4 | 0 => 0 | 105 => 56 | 21 => 21 | 5 => 5 | 46 => 61 | 119 => 65 | 139 => 68 | 138 => 67 | 146 => 70 | 51 => 69 | n => n, fun | 1 => 0 | 3 => 1 | 4 => 2 | n => n⟩
theorem strings_Split.lays : Go.Proofs.Lays.n146 Tryd.prog strings_Split.ren := {
 mixed := by kernel_rfl
 f138 := Tryd.func29.trans (congrArg some (by kernel_rfl))
 f143 := Tryd.func30.trans (congrArg some (by kernel_rfl))
 f146 := Tryd.func12.trans (congrArg some (by kernel_rfl))
 f195 := Tryd.func34.trans (congrArg some (by kernel_rfl))
 f197 := Tryd.func35.trans (congrArg some (by kernel_rfl))
 f217 := Tryd.func41.trans (congrArg some (by kernel_rfl))
 f218 := Tryd.func36.trans (congrArg some (by kernel_rfl))
 f219 := Tryd.func37.trans (congrArg some (by kernel_rfl))
 f221 := Tryd.func23.trans (congrArg some (by kernel_rfl))
 f224 := Tryd.func43.trans (congrArg some (by kernel_rfl))
 f225 := Tryd.func42.trans (congrArg some (by kernel_rfl))
 f260 := Tryd.func40.trans (congrArg some (by kernel_rfl))
 f266 := Tryd.func47.trans (congrArg some (by kernel_rfl))
 f267 := Tryd.func44.trans (congrArg some (by kernel_rfl))
 f268 := Tryd.func28.trans (congrArg some (by kernel_rfl))
 f314 := Tryd.func48.trans (congrArg some (by kernel_rfl))
 t0 := Tryd.underlying0
 a0 := Tryd.isAgg0
 z0 := Tryd.sizeOf0
 v0 := Tryd.zeroValue0
 t3 := Tryd.underlying3
 a3 := Tryd.isAgg3
 z3 := Tryd.sizeOf3
 v3 := Tryd.zeroValue3
 t4 := Tryd.underlying4
 a4 := Tryd.isAgg4
 z4 := Tryd.sizeOf4
 v4 := Tryd.zeroValue4
 t5 := Tryd.underlying5
 a5 := Tryd.isAgg5
 z5 := Tryd.sizeOf5
 v5 := Tryd.zeroValue5
 t9 := Tryd.underlying9
 a9 := Tryd.isAgg9
 z9 := Tryd.sizeOf9
 v9 := Tryd.zeroValue9
 t21 := Tryd.underlying21
 a21 := Tryd.isAgg21
 z21 := Tryd.sizeOf21
 v21 := Tryd.zeroValue21
 t31 := Tryd.underlying30
 a31 := Tryd.isAgg30
 z31 := Tryd.sizeOf30
 v31 := Tryd.zeroValue30
 t46 := Tryd.underlying61
 a46 := Tryd.isAgg61
 z46 := Tryd.sizeOf61
 v46 := Tryd.zeroValue61
 t51 := Tryd.underlying69
 a51 := Tryd.isAgg69
 z51 := Tryd.sizeOf69
 v51 := Tryd.zeroValue69
 t105 := Tryd.underlying56
 a105 := Tryd.isAgg56
 z105 := Tryd.sizeOf56
 v105 := Tryd.zeroValue56
 t119 := Tryd.underlying65
 a119 := Tryd.isAgg65
 z119 := Tryd.sizeOf65
 t138 := Tryd.underlying67
 a138 := Tryd.isAgg67
 z138 := Tryd.sizeOf67
 v138 := Tryd.zeroValue67
 t139 := Tryd.underlying68
 a139 := Tryd.isAgg68
 z139 := Tryd.sizeOf68
 v139 := Tryd.zeroValue68
 t146 := Tryd.underlying70
 a146 := Tryd.isAgg70
 z146 := Tryd.sizeOf70
 v146 := Tryd.zeroValue70
 g1 := by kernel_rfl
 g3 := by kernel_rfl
 g4 := by kernel_rfl }
def strings_Split.f (a0 a1 : ByteArray) : Option (List ByteArray) := if a0.size < 4294967281 ∧ 1 ≤ a1.size then some (Lib.splitB a1 0 (Lib.countB a0 a1) a0) else none
theorem strings_Split.ac (a0 a1 : ByteArray) (r : List ByteArray) (h : strings_Split.f a0 a1 = some r) : ACalls Tryd.prog 12 [.lit (.string a0), .lit (.string a1)] [] (fun v H' => v = .own 0 r.length ∧ H' = [.sl 9 1 r.length false (Enc.cells r)]) := by
 unfold strings_Split.f at h
 by_cases hb : a0.size < 4294967281 ∧ 1 ≤ a1.size
 ·
  rw [if_pos hb] at h
  injection h with h
  subst h
  intro R F A w vs hi hvs
  match vs, hvs with
  | [], hvs => simp [VRs] at hvs
  | [_], hvs => simp [VRs] at hvs
  | [c, d], hvs =>
   simp only [VRs, VR, and_true] at hvs
   obtain ⟨rfl, rfl⟩ := hvs
   obtain ⟨m, hm⟩ := tabIn_of hi.tab
   have hle := Lib.countB_le a1 hb.2 a0.size a0 (Nat.le_refl _)
   have hl := Lib.splitB_all a1 hb.2 0 _ a0 rfl
   refine (Any.strings_Split strings_Split.lays (by kernel_rfl) a0 a1 m w hb.1 hm hb.2).mono ?_
   rintro e w' ⟨rfl, rfl⟩
   refine CallPost.fresh (n := (Lib.splitB a1 0 (Lib.countB a0 a1) a0).length) (vs := (Lib.splitB a1 0 (Lib.countB a0 a1) a0).map Value.string) hi rfl ?_ ((Below.refl _ w).alloc (Nat.le_refl _) _) (fun _ _ _ _ => VRs_strs _)
   have h3 := World.ownsRow_lit (base := w.heap.size) (e := 9) (size := 1) w ((Lib.splitB a1 0 (Lib.countB a0 a1) a0).map Value.string).toArray (Lib.splitB a1 0 (Lib.countB a0 a1) a0).length (Nat.le_refl _) (by rw [hl]; simp only [maxLen]; omega) (by simp)
   rw [hl] at h3 ⊢
   change (World.alloc w (Obj.cells _ 9)).ownsRow _ _ _ _ _ _
   simpa using h3
  | _ :: _ :: _ :: _, hvs => simp [VRs] at hvs
 ·
  rw [if_neg hb] at h
  cases h

/-! ### impl_table: function 13 -/
mutual
def impl_table.l0 : Nat → Int → (Int → Int → Option Bool) → Int → Int → Int → Int → List Int → Option (Int × Int × List Int)
 | 0, _, _, _, _, _, _, _ => none
 | k + 1, x1, x2, x15, x16, x133000, x133001, x133002 => if x16 < x15 then (impl_table.l1 k x1 x2 x16 x15 x16 x1 0 x133000 x133001 x133002) else (some (x133000, x133001, x133002))
def impl_table.l1 : Nat → Int → (Int → Int → Option Bool) → Int → Int → Int → Int → Int → Int → Int → List Int → Option (Int × Int × List Int)
 | 0, _, _, _, _, _, _, _, _, _, _ => none
 | k + 1, x1, x2, x8, x15, x16, x19, x20, x133000, x133001, x133002 => if x20 < x19 then ((x2 x8 x20).bind fun t133 => (if t133 = true then (if 0 ≤ x8 then (if x8 < (x133002.length : Int) then (if 0 ≤ x20 then (impl_table.l1 k x1 x2 x8 x15 x16 x19 (wrap64 (x20 + 1)) x133000 x133001 (x133002.set (x8 : Int).toNat (Go.bits .or .i64 (rd x133002 x8) (shl .i64 1 x20)))) else (none)) else (none)) else (none)) else (impl_table.l1 k x1 x2 x8 x15 x16 x19 (wrap64 (x20 + 1)) x133000 x133001 x133002))) else (impl_table.l0 k x1 x2 x15 (wrap64 (x16 + 1)) x133000 x133001 x133002)
end
def impl_table.f (k : Nat) (a0 : Int) (a1 : Int) (a2 : (Int → Int → Option Bool)) : Option (Int × Int × List Int) := if 0 ≤ a0 then (if (a0 : Int).toNat ≤ 35184372088832 then (impl_table.l0 k a1 a2 a0 0 a0 a1 (List.replicate (a0 : Int).toNat 0)) else (none)) else (none)
set_option maxRecDepth 100000 in
set_option maxHeartbeats 20000000 in
theorem impl_table.ac (k : Nat) (a0 : Int) (a1 : Int) (a2 : Int → Int → Option Bool) (r1 : Int) (r2 : Int) (r3 : List Int) (h : impl_table.f k a0 a1 a2 = some (r1, r2, r3)) (F2 : FuncId) (cs2 : List AV) (hF2 : FnOk Tryd.prog F2) (hnf2 : noids cs2 = true) (hcf2 : ∀ x_ y_ r_, a2 x_ y_ = some r_ → ACalls Tryd.prog F2 (.lit (.int .i64 x_) :: .lit (.int .i64 y_) :: cs2) [] (fun v H' => v = .lit (.bool r_) ∧ H' = [])) :
  ACalls Tryd.prog 13 [.lit (.int .i64 a0), .lit (.int .i64 a1), .fn F2 cs2] [] (fun v H' => v = .agg [.lit (.int .i64 r1), .lit (.int .i64 r2), .own 0 r3.length] ∧ H' = [.sl 3 1 r3.length false (ints .i64 r3)]) := by
 obtain ⟨fn2, hff2, hnm2, hbd2⟩ := id hF2
 refine ACalls.ofV Tryd.func13 rfl (by exact Nat.le_of_ble_eq_true rfl) ?_
 simp only [Tryd.ntmps13, env0, impl_table.f] at h ⊢
 repeat (first | (rw [iN] at h; obtain ⟨_, h⟩ := h) | (rw [iP] at h; obtain ⟨_, h⟩ := h) | (simp only [bS] at h))
 refine AWp.seq ?_
 refine AWp.region ?_
 refine L.M (M.al Y24) ?_
 refine AList.nil ?_
 refine AWp.seq ?_
 refine AWp.region ?_
 refine L.Y Y.mv ?_
 refine L.Y Y.mv ?_
 refine L.Y Y.mv ?_
 refine L.M (M.mk Tryd.underlying22 Y3) ?_
 refine L.Y (Y.bd Tryd.underlying24 Y24 P24) ?_
 refine L.M (M.al Y24) ?_
 refine L.S (S.stb Y24) ?_
 refine AList.nil ?_
 refine AWp.seq ?_
 refine AWp.seq ?_
 refine W.kp [0, 1, 2, 6, 7] ?_
 refine AWp.region ?_
 refine L.Y Y.mv ?_
 refine L.Y Y.mv ?_
 refine AList.nil ?_
 refine AWp.block ?_
 refine AWp.loopI (fun kk e H => kk ≤ k ∧ ∃ (x1 : Int) (x15 : Int) (x16 : Int) (x129000 : Int) (x129001 : Int) (x133000 : Int) (x133001 : Int) (x133002 : List Int), e = [(1, .lit (.int .i64 x1)), (2, .fn F2 cs2), (6, .ptr 0 0), (7, .ptr 1 0), (15, .lit (.int .i64 x15)), (16, .lit (.int .i64 x16))] ∧ H = [.bx 24 [.lit (.int .i64 x129000), .lit (.int .i64 x129001), .lit (.slice none 0 0)], .bx 24 [.lit (.int .i64 x133000), .lit (.int .i64 x133001), .own 2 x133002.length], .sl 3 1 x133002.length true (ints .i64 x133002)] ∧ impl_table.l0 kk x1 a2 x15 x16 x133000 x133001 x133002 = some (r1, r2, r3)) (k := k)
  ⟨_, _, ⟨Nat.le_refl _, _, _, _, _, _, _, _, _, rfl, rfl, h⟩, IsPart.at [] [0, 2, 1] base0 (H.c (H.c (H.c .nil))) (E.c (E.c (E.c (E.c (E.c (E.c .nil))))))⟩ ?_
 clear h
 rintro k1 e H ⟨hk2, x1, x15, x16, x129000, x129001, x133000, x133001, x133002, rfl, rfl, h⟩
 cases k1 with
 | zero => exact absurd h (by simp [impl_table.l0])
 | succ k1 =>
 simp only [impl_table.l0] at h
 refine AWp.seq ?_
 refine AWp.region ?_
 refine L.Y Y.bin ?_
 refine AList.nil ?_
 refine AWp.seq ?_
 refine W.cond (fun hb => ?_) (fun hb => ?_)
 ·
  have hb3 := hb
  try simp only [hS, hE, ne_eq] at hb
  first | rw [if_pos hb3] at h | rw [if_neg (Bool.eq_false_iff.1 hb3)] at h | rw [if_pos hb] at h | rw [if_neg hb] at h | (simp only [hb, hT, reduceIte] at h) | skip
  refine AWp.skip ?_
  refine AWp.seq ?_
  refine AWp.block ?_
  refine AWp.seq ?_
  refine AWp.region ?_
  refine L.Y Y.mv ?_
  refine L.Y Y.asg ?_
  refine AList.nil ?_
  refine AWp.seq ?_
  refine AWp.region ?_
  refine L.Y Y.mv ?_
  refine L.Y Y.mv ?_
  refine AList.nil ?_
  refine AWp.block ?_
  refine AWp.loopI (fun kk e H => kk ≤ k1 ∧ ∃ (x1 : Int) (x8 : Int) (x15 : Int) (x16 : Int) (x19 : Int) (x20 : Int) (x129000 : Int) (x129001 : Int) (x133000 : Int) (x133001 : Int) (x133002 : List Int), e = [(1, .lit (.int .i64 x1)), (2, .fn F2 cs2), (6, .ptr 0 0), (7, .ptr 1 0), (8, .lit (.int .i64 x8)), (15, .lit (.int .i64 x15)), (16, .lit (.int .i64 x16)), (19, .lit (.int .i64 x19)), (20, .lit (.int .i64 x20))] ∧ H = [.bx 24 [.lit (.int .i64 x129000), .lit (.int .i64 x129001), .lit (.slice none 0 0)], .bx 24 [.lit (.int .i64 x133000), .lit (.int .i64 x133001), .own 2 x133002.length], .sl 3 1 x133002.length true (ints .i64 x133002)] ∧ impl_table.l1 kk x1 a2 x8 x15 x16 x19 x20 x133000 x133001 x133002 = some (r1, r2, r3)) (k := k1)
   ⟨_, _, ⟨Nat.le_refl _, _, _, _, _, _, _, _, _, _, _, _, rfl, rfl, h⟩, IsPart.at [] [0, 1, 2] base0 (H.c (H.c (H.c .nil))) (E.c (E.c (E.c (E.c (E.c (E.c (E.c (E.c (E.c .nil)))))))))⟩ ?_
  clear h
  rintro k4 e H ⟨hk5, x1, x8, x15, x16, x19, x20, x129000, x129001, x133000, x133001, x133002, rfl, rfl, h⟩
  cases k4 with
  | zero => exact absurd h (by simp [impl_table.l1])
  | succ k4 =>
  simp only [impl_table.l1] at h
  refine AWp.seq ?_
  refine AWp.region ?_
  refine L.Y Y.bin ?_
  refine AList.nil ?_
  refine AWp.seq ?_
  refine W.cond (fun hb => ?_) (fun hb => ?_)
  ·
   have hb6 := hb
   try simp only [hS, hE, ne_eq] at hb
   first | rw [if_pos hb6] at h | rw [if_neg (Bool.eq_false_iff.1 hb6)] at h | rw [if_pos hb] at h | rw [if_neg hb] at h | (simp only [hb, hT, reduceIte] at h) | skip
   refine AWp.skip ?_
   refine AWp.seq ?_
   refine AWp.block ?_
   refine AWp.seq ?_
   refine AWp.region ?_
   refine L.Y Y.mv ?_
   refine L.Y Y.asg ?_
   refine AList.nil ?_
   refine AWp.seq ?_
   refine AWp.region ?_
   refine L.Y Y.mv ?_
   refine L.Y Y.mv ?_
   refine L.Y Y.mv ?_
   replace h := Option.bind_eq_some_iff.1 h
   obtain ⟨t133, hc7, h⟩ := h
   refine L.C (C.callE (l := true) [] hff2 (hcf2 _ _ _ hc7) .nil ?_ (hname := hnm2) (hb := hbd2))
   refine AList.nil ?_
   refine W.cond (fun hb => ?_) (fun hb => ?_)
   ·
    have hb8 := hb
    try simp only [hS, hE, ne_eq] at hb
    first | rw [if_pos hb8] at h | rw [if_neg (Bool.eq_false_iff.1 hb8)] at h | rw [if_pos hb] at h | rw [if_neg hb] at h | (simp only [hb, hT, reduceIte] at h) | skip
    repeat (first | (rw [iN] at h; obtain ⟨_, h⟩ := h) | (rw [iP] at h; obtain ⟨_, h⟩ := h) | (simp only [bS] at h))
    refine W.kp [1, 2, 6, 7, 8, 9, 15, 16, 19, 20, 21, 26] ?_
    refine Dt.reg [] [9] (.y 0 (.t 1 (.y 2 (.y 3 (.t 4 (.y 5 (.y 6 (.y 7 (.y 8 (.last 9 .done)))))))))) HM ?_
    refine Dt.Y rfl wantN (Y.fa (off := 2) Tryd.underlying24 Y22) ?_
    refine Dt.T rfl wantN (D.ld Tryd.underlying22) ?_
    refine Dt.Y rfl wantN Y.mv ?_
    refine Dt.Y rfl wantN (Y.ixo Tryd.underlying22 Y3) ?_
    refine Dt.T rfl wantN (D.ld Tryd.underlying3) ?_
    refine Dt.Y rfl wantN Y.mv ?_
    refine Dt.Y rfl wantN Y.bin ?_
    refine Dt.Y rfl wantN Y.bin ?_
    refine Dt.Y rfl wantN (Y.ixo Tryd.underlying22 Y3) ?_
    refine Dt.L rfl wantN ?_
    refine Op.S (S.sts Y3) ?_
    refine Du.nil ?_
    refine W.kp [1, 2, 6, 7, 8, 9, 15, 16, 19, 20, 21, 26] ?_
    refine AWp.region ?_
    refine L.Y Y.bin ?_
    refine L.Y Y.mv ?_
    refine AList.nil ?_
    exact ⟨k4, by omega, _, _, ⟨by omega, _, _, _, _, _, _, _, _, _, _, _, rfl, rfl, h⟩, IsPart.at [] [0, 1, 2] base0 (H.c (H.c (H.c .nil))) (E.c (E.c (E.c (E.c (E.c (E.c (E.c (E.c (E.c .nil)))))))))⟩
   ·
    have hb8 := hb
    try simp only [hS, hE, ne_eq] at hb
    first | rw [if_pos hb8] at h | rw [if_neg (Bool.eq_false_iff.1 hb8)] at h | rw [if_pos hb] at h | rw [if_neg hb] at h | (simp only [hb, hT, reduceIte] at h) | skip
    refine AWp.skip ?_
    refine W.kp [1, 2, 6, 7, 8, 9, 15, 16, 19, 20, 21, 26] ?_
    refine AWp.region ?_
    refine L.Y Y.bin ?_
    refine L.Y Y.mv ?_
    refine AList.nil ?_
    exact ⟨k4, by omega, _, _, ⟨by omega, _, _, _, _, _, _, _, _, _, _, _, rfl, rfl, h⟩, IsPart.at [] [0, 1, 2] base0 (H.c (H.c (H.c .nil))) (E.c (E.c (E.c (E.c (E.c (E.c (E.c (E.c (E.c .nil)))))))))⟩
  ·
   have hb6 := hb
   try simp only [hS, hE, ne_eq] at hb
   first | rw [if_pos hb6] at h | rw [if_neg (Bool.eq_false_iff.1 hb6)] at h | rw [if_pos hb] at h | rw [if_neg hb] at h | (simp only [hb, hT, reduceIte] at h) | skip
   refine AWp.exit ?_
   refine AWp.region ?_
   refine L.Y Y.bin ?_
   refine L.Y Y.mv ?_
   refine AList.nil ?_
   exact ⟨k4, by omega, _, _, ⟨by omega, _, _, _, _, _, _, _, _, rfl, rfl, h⟩, IsPart.at [] [0, 1, 2] base0 (H.c (H.c (H.c .nil))) (E.c (E.c (E.c (E.c (E.c (E.c .nil))))))⟩
 ·
  have hb3 := hb
  try simp only [hS, hE, ne_eq] at hb
  first | rw [if_pos hb3] at h | rw [if_neg (Bool.eq_false_iff.1 hb3)] at h | rw [if_pos hb] at h | rw [if_neg hb] at h | (simp only [hb, hT, reduceIte] at h) | skip
  refine AWp.exit ?_
  refine AWp.seq ?_
  refine AWp.region ?_
  refine L.S (S.ldN Tryd.underlying24 Y24) ?_
  refine L.S (S.stb Y24) ?_
  refine AList.nil ?_
  simp only [Option.some.injEq, Prod.mk.injEq] at h
  obtain ⟨rfl, rfl, rfl⟩ := h
  refine AWp.ret ?_
  exact ⟨.inr rfl, _, _, _, Res.cl Tryd.underlying24 Y24, ⟨rfl, rfl⟩, PartV.at [] [2] base0 (H.c .nil)⟩

/-! ### impl_ParseTable_1: function 14 -/
def impl_ParseTable_1.f (a0 : Int) (a1 : Int) (l2_0 : List ByteArray) : Option (Bool) := if 0 ≤ a0 then (if a0 < (l2_0.length : Int) then (if a1 < ((Enc.rd l2_0 a0).size : Int) then (if 0 ≤ a1 then (some ((bt (Enc.rd l2_0 a0) a1) == 49)) else (none)) else (some false)) else (none)) else (none)
set_option maxRecDepth 100000 in
set_option maxHeartbeats 20000000 in
theorem impl_ParseTable_1.ac (a0 : Int) (a1 : Int) (l2_0 : List ByteArray) (r : Bool) (h : impl_ParseTable_1.f a0 a1 l2_0 = some r) :
  ACalls Tryd.prog 14 [.lit (.int .i64 a0), .lit (.int .i64 a1), .rptr [.row 1 l2_0.length false (Enc.cells l2_0)]] [] (fun v H' => v = .lit (.bool r) ∧ H' = []) := by
 refine ACalls.ofP [5] Tryd.func14 rfl (by exact Nat.le_of_ble_eq_true rfl) rfl (by decide) ?_
 simp only [Tryd.ntmps14, env0, impl_ParseTable_1.f] at h ⊢
 repeat (first | (rw [iN] at h; obtain ⟨_, h⟩ := h) | (rw [iP] at h; obtain ⟨_, h⟩ := h) | (simp only [bS] at h))
 refine AWp.seq ?_
 refine AWp.region ?_
 refine L.Y Y.asg ?_
 refine AList.nil ?_
 refine AWp.seq ?_
 refine AWp.region ?_
 refine L.Y Y.mv ?_
 refine L.S (S.ld Tryd.underlying30) ?_
 refine L.Y Y.mv ?_
 refine L.Y (Y.ixrT Tryd.underlying30 Y9 en_str) ?_
 refine L.S (S.ld Tryd.underlying9) ?_
 refine L.Y (Y.ls Tryd.underlying9) ?_
 refine L.Y Y.bin ?_
 refine L.Y Y.mv ?_
 refine L.Gc (fun hb => ?_) (fun hb => ?_)
 ·
  have hb1 := hb
  try simp only [hS, hE, ne_eq] at hb
  first | rw [if_pos hb1] at h | rw [if_neg (Bool.eq_false_iff.1 hb1)] at h | rw [if_pos hb] at h | rw [if_neg hb] at h | (simp only [hb, hT, reduceIte] at h) | skip
  repeat (first | (rw [iN] at h; obtain ⟨_, h⟩ := h) | (rw [iP] at h; obtain ⟨_, h⟩ := h) | (simp only [bS] at h))
  refine L.Gs hb1 (S.ld Tryd.underlying30) ?_
  refine L.Gy hb1 Y.mv ?_
  refine L.Gy hb1 (Y.ixrT Tryd.underlying30 Y9 en_str) ?_
  refine L.Gs hb1 (S.ld Tryd.underlying9) ?_
  refine L.Gy hb1 Y.mv ?_
  refine L.Gy hb1 (Y.ixs Tryd.underlying9) ?_
  refine L.Gy hb1 Y.bin ?_
  refine L.Y (Y.pk (c := true) hb1) ?_
  refine L.Y Y.asg ?_
  refine AList.nil ?_
  obtain rfl := Option.some.inj h
  refine AWp.ret ?_
  exact ⟨.inr rfl, [(5, _)], _, ⟨rfl, rfl⟩, IsPart.at [] [] base0 .nil (E.c .nil)⟩
 ·
  have hb1 := hb
  try simp only [hS, hE, ne_eq] at hb
  first | rw [if_pos hb1] at h | rw [if_neg (Bool.eq_false_iff.1 hb1)] at h | rw [if_pos hb] at h | rw [if_neg hb] at h | (simp only [hb, hT, reduceIte] at h) | skip
  refine L.Gn hb1 ?_
  refine L.Gn hb1 ?_
  refine L.Gn hb1 ?_
  refine L.Gn hb1 ?_
  refine L.Gn hb1 ?_
  refine L.Gn hb1 ?_
  refine L.Gn hb1 ?_
  refine L.Y (Y.pk (c := false) hb1) ?_
  refine L.Y Y.asg ?_
  refine AList.nil ?_
  obtain rfl := Option.some.inj h
  refine AWp.ret ?_
  exact ⟨.inr rfl, [(5, _)], _, ⟨rfl, rfl⟩, IsPart.at [] [] base0 .nil (E.c .nil)⟩

/-! ### impl_within: function 24 -/
def impl_within.f (a0 : Int) (a1 : Int) (a2 : Int) : Option (Bool) := if a0 ≥ a1 then (some (decide (a0 ≤ a2))) else (some false)
set_option maxRecDepth 100000 in
set_option maxHeartbeats 20000000 in
theorem impl_within.ac (a0 : Int) (a1 : Int) (a2 : Int) (r : Bool) (h : impl_within.f a0 a1 a2 = some r) :
  ACalls Tryd.prog 24 [.lit (.int .i64 a0), .lit (.int .i64 a1), .lit (.int .i64 a2)] [] (fun v H' => v = .lit (.bool r) ∧ H' = []) := by
 refine ACalls.ofP [6] Tryd.func24 rfl (by exact Nat.le_of_ble_eq_true rfl) rfl (by decide) ?_
 simp only [Tryd.ntmps24, env0, impl_within.f] at h ⊢
 refine AWp.seq ?_
 refine AWp.region ?_
 refine L.Y Y.asg ?_
 refine AList.nil ?_
 refine AWp.seq ?_
 refine AWp.region ?_
 refine L.Y Y.mv ?_
 refine L.Y Y.mv ?_
 refine L.Y Y.bin ?_
 refine L.Y Y.mv ?_
 refine L.Gc (fun hb => ?_) (fun hb => ?_)
 ·
  have hb1 := hb
  try simp only [hS, hE, ne_eq] at hb
  first | rw [if_pos hb1] at h | rw [if_neg (Bool.eq_false_iff.1 hb1)] at h | rw [if_pos hb] at h | rw [if_neg hb] at h | (simp only [hb, hT, reduceIte] at h) | skip
  refine L.Gy hb1 Y.mv ?_
  refine L.Gy hb1 Y.mv ?_
  refine L.Gy hb1 Y.bin ?_
  refine L.Y (Y.pk (c := true) hb1) ?_
  refine L.Y Y.asg ?_
  refine AList.nil ?_
  obtain rfl := Option.some.inj h
  refine AWp.ret ?_
  exact ⟨.inr rfl, [(6, _)], _, ⟨rfl, rfl⟩, IsPart.at [] [] base0 .nil (E.c .nil)⟩
 ·
  have hb1 := hb
  try simp only [hS, hE, ne_eq] at hb
  first | rw [if_pos hb1] at h | rw [if_neg (Bool.eq_false_iff.1 hb1)] at h | rw [if_pos hb] at h | rw [if_neg hb] at h | (simp only [hb, hT, reduceIte] at h) | skip
  refine L.Gn hb1 ?_
  refine L.Gn hb1 ?_
  refine L.Gn hb1 ?_
  refine L.Y (Y.pk (c := false) hb1) ?_
  refine L.Y Y.asg ?_
  refine AList.nil ?_
  obtain rfl := Option.some.inj h
  refine AWp.ret ?_
  exact ⟨.inr rfl, [(6, _)], _, ⟨rfl, rfl⟩, IsPart.at [] [] base0 .nil (E.c .nil)⟩

/-! ### impl_allWithin: function 25 -/
def impl_allWithin.l0 : Nat → Int → Int → List Int → Int → Int → Option (Bool)
 | 0, _, _, _, _, _ => none
 | k + 1, x1, x2, x9, x10, x11 => if x11 < x10 then (if 0 ≤ x11 then (if x11 < (x9.length : Int) then ((impl_within.f (rd x9 x11) x1 x2).bind fun t139 => (if t139 = true then (impl_allWithin.l0 k x1 x2 x9 x10 (wrap64 (x11 + 1))) else (some false))) else (none)) else (none)) else (some true)
def impl_allWithin.f (k : Nat) (l0 : List Int) (a1 : Int) (a2 : Int) : Option (Bool) := impl_allWithin.l0 k a1 a2 l0 (l0.length : Int) 0
set_option maxRecDepth 100000 in
set_option maxHeartbeats 20000000 in
theorem impl_allWithin.ac (k : Nat) (l0 : List Int) (a1 : Int) (a2 : Int) (r : Bool) (h : impl_allWithin.f k l0 a1 a2 = some r) :
  ACalls Tryd.prog 25 [.row 1 l0.length false (ints .i64 l0), .lit (.int .i64 a1), .lit (.int .i64 a2)] [] (fun v H' => v = .lit (.bool r) ∧ H' = []) := by
 refine ACalls.ofP [6] Tryd.func25 rfl (by exact Nat.le_of_ble_eq_true rfl) rfl (by decide) ?_
 simp only [Tryd.ntmps25, env0, impl_allWithin.f] at h ⊢
 refine AWp.seq ?_
 refine AWp.region ?_
 refine L.Y Y.asg ?_
 refine AList.nil ?_
 refine AWp.seq ?_
 refine AWp.seq ?_
 refine AWp.region ?_
 refine L.Y Y.mv ?_
 refine L.Y (Y.ln Tryd.underlying22) ?_
 refine L.Y Y.mv ?_
 refine AList.nil ?_
 refine AWp.block ?_
 refine AWp.loopI (fun kk e H => kk ≤ k ∧ ∃ (x1 : Int) (x2 : Int) (x10 : Int) (x11 : Int), e = [(1, .lit (.int .i64 x1)), (2, .lit (.int .i64 x2)), (9, .row 1 l0.length false (ints .i64 l0)), (10, .lit (.int .i64 x10)), (11, .lit (.int .i64 x11))] ∧ H = [] ∧ impl_allWithin.l0 kk x1 x2 l0 x10 x11 = some r) (k := k)
  ⟨_, _, ⟨Nat.le_refl _, _, _, _, _, rfl, rfl, h⟩, IsPart.at [] [] base0 .nil (E.c (E.c (E.c (E.c (E.c .nil)))))⟩ ?_
 clear h
 rintro k1 e H ⟨hk2, x1, x2, x10, x11, rfl, rfl, h⟩
 cases k1 with
 | zero => exact absurd h (by simp [impl_allWithin.l0])
 | succ k1 =>
 simp only [impl_allWithin.l0] at h
 refine AWp.seq ?_
 refine AWp.region ?_
 refine L.Y Y.bin ?_
 refine AList.nil ?_
 refine AWp.seq ?_
 refine W.cond (fun hb => ?_) (fun hb => ?_)
 ·
  have hb3 := hb
  try simp only [hS, hE, ne_eq] at hb
  first | rw [if_pos hb3] at h | rw [if_neg (Bool.eq_false_iff.1 hb3)] at h | rw [if_pos hb] at h | rw [if_neg hb] at h | (simp only [hb, hT, reduceIte] at h) | skip
  repeat (first | (rw [iN] at h; obtain ⟨_, h⟩ := h) | (rw [iP] at h; obtain ⟨_, h⟩ := h) | (simp only [bS] at h))
  refine AWp.skip ?_
  refine AWp.seq ?_
  refine AWp.block ?_
  refine AWp.seq ?_
  refine AWp.region ?_
  refine L.Y (Y.ixr Tryd.underlying22 Y3) ?_
  refine L.S (S.ld Tryd.underlying3) ?_
  refine L.Y Y.asg ?_
  refine AList.nil ?_
  refine AWp.seq ?_
  refine AWp.region ?_
  refine L.Y Y.mv ?_
  refine L.Y Y.mv ?_
  refine L.Y Y.mv ?_
  replace h := Option.bind_eq_some_iff.1 h
  obtain ⟨t139, hc4, h⟩ := h
  refine L.C (C.callE (l := true) [] Tryd.func24 (impl_within.ac _ _ _ _ hc4) .nil ?_)
  refine L.Y Y.nt ?_
  refine AList.nil ?_
  refine W.cond (fun hb => ?_) (fun hb => ?_)
  ·
   have hb5 := hb
   try simp only [hS, hE, ne_eq] at hb
   first | rw [if_pos hb5] at h | rw [if_neg (Bool.eq_false_iff.1 hb5)] at h | rw [if_pos hb] at h | rw [if_neg hb] at h | (simp only [hb, hT, reduceIte] at h) | skip
   refine AWp.seq ?_
   refine W.kp [1, 2, 8, 9, 10, 11, 12, 19] ?_
   refine AWp.region ?_
   refine L.Y Y.asg ?_
   refine AList.nil ?_
   obtain rfl := Option.some.inj h
   refine AWp.ret ?_
   exact ⟨.inr rfl, [(6, _)], _, ⟨rfl, rfl⟩, IsPart.at [] [] base0 .nil (E.c .nil)⟩
  ·
   have hb5 := hb
   try simp only [hS, hE, ne_eq] at hb
   first | rw [if_pos hb5] at h | rw [if_neg (Bool.eq_false_iff.1 hb5)] at h | rw [if_pos hb] at h | rw [if_neg hb] at h | (simp only [hb, hT, reduceIte] at h) | skip
   refine AWp.skip ?_
   refine W.kp [1, 2, 8, 9, 10, 11, 12, 19] ?_
   refine AWp.region ?_
   refine L.Y Y.bin ?_
   refine L.Y Y.mv ?_
   refine AList.nil ?_
   exact ⟨k1, by omega, _, _, ⟨by omega, _, _, _, _, rfl, rfl, h⟩, IsPart.at [] [] base0 .nil (E.c (E.c (E.c (E.c (E.c .nil)))))⟩
 ·
  have hb3 := hb
  try simp only [hS, hE, ne_eq] at hb
  first | rw [if_pos hb3] at h | rw [if_neg (Bool.eq_false_iff.1 hb3)] at h | rw [if_pos hb] at h | rw [if_neg hb] at h | (simp only [hb, hT, reduceIte] at h) | skip
  refine AWp.exit ?_
  refine AWp.seq ?_
  refine AWp.region ?_
  refine L.Y Y.asg ?_
  refine AList.nil ?_
  obtain rfl := Option.some.inj h
  refine AWp.ret ?_
  exact ⟨.inr rfl, [(6, _)], _, ⟨rfl, rfl⟩, IsPart.at [] [] base0 .nil (E.c .nil)⟩

end Go.Proofs.YtikhopopiaanmaaDoor.PFnExactParseTable
