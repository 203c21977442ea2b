-- Written by a program of this session's (wip/myprint2): the functions by the kit's print, the walks by awgen.py. Lean checks it.
import Derived.Test.YtakabmokpknknaaDoorPFnTablesTurnedx0
import Derived.Test.YtakabmokpknknaaDoorPFnTablesTurnedx4
import Derived.Test.YtakabmokpknknaaDoorPFnTablesTurnedx5
import Derived.Test.YtakabmokpknknaaDoorPFnTablesTurnedx7
namespace Go.Proofs.YtakabmokpknknaaDoor.PFnTablesTurned
open Go.RowKit Go.Proofs.YtakabmokpknknaaDoorW.PrintWords Go.Proofs.YtakabmokpknknaaDoorW.PrintLast Go.Proofs.YtakabmokpknknaaDoorW.PrintMore Go.Proofs.YtakabmokpknknaaDoorM Go.Proofs.YtakabmokpknknaaDoorA Go.Proofs.YtakabmokpknknaaDoorT
attribute [local go_sem] max2_int min2_int max_two min_two max_three min_three max_four min_four   -- for this text's walks alone
set_option linter.unusedVariables false
set_option linter.unusedSimpArgs false

/-! ### impl_ParseTable: function 47 -/
def impl_ParseTable.j0 : Nat → ByteArray → Bool → List ByteArray → Option (Int × Int × List Int × Bool)
 | 0, _, _, _ => none
 | k + 1, x0, x17, x343000 => if x17 = true then (some (0, 0, ([] : List Int), false)) else (if 0 < (x343000.length : Int) then ((impl_table.f k (x343000.length : Int) ((Enc.rd x343000 0).size : Int) (fun z0_ z1_ => impl_ParseTable_1.f z0_ z1_ x343000)).bind fun bt345 => ((impl_IsTable.f k bt345.1 bt345.2.1 bt345.2.2).bind fun t351 => (if t351 = true then ((impl_tableText.f k bt345.1 bt345.2.1 bt345.2.2).bind fun t352 => (if t352.toList = x0.toList then (some (bt345.1, bt345.2.1, bt345.2.2, true)) else (some (0, 0, ([] : List Int), false)))) else (some (0, 0, ([] : List Int), false))))) else (none))
def impl_ParseTable.f (k : Nat) (a0 : ByteArray) : Option (Int × Int × List Int × Bool) := (strings_Split.f a0 (⟨#[47]⟩ : ByteArray)).bind fun t339 => (if (t339.length : Int) > 6 then (impl_ParseTable.j0 k a0 true t339) else (if 0 < (t339.length : Int) then (impl_ParseTable.j0 k a0 (decide (((Enc.rd t339 0).size : Int) > 6)) t339) else (none)))
set_option maxRecDepth 100000 in
set_option maxHeartbeats 20000000 in
theorem impl_ParseTable.ac (k : Nat) (a0 : ByteArray) (r1 : Int) (r2 : Int) (r3 : List Int) (r4 : Bool) (h : impl_ParseTable.f k a0 = some (r1, r2, r3, r4)) :
  ACalls Tryd.prog 47 [.lit (.string a0)] [] (fun v H' => v = .tup [.agg [.lit (.int .i64 r1), .lit (.int .i64 r2), .own 0 r3.length], .lit (.bool r4)] ∧ H' = [.sl 3 1 r3.length false (ints .i64 r3)]) := by
 refine ACalls.ofV Tryd.func47 rfl (by exact Nat.le_of_ble_eq_true rfl) ?_
 simp only [Tryd.ntmps47, env0, impl_ParseTable.f] at h ⊢
 refine AWp.seq ?_
 refine AWp.region ?_
 refine L.M (M.al Y59) ?_
 refine L.Y Y.asg ?_
 refine AList.nil ?_
 refine AWp.seq ?_
 refine AWp.region ?_
 refine L.Y Y.mv ?_
 replace h := Option.bind_eq_some_iff.1 h
 obtain ⟨t339, hc1, h⟩ := h
 refine L.C (C.callE (l := true) [] Tryd.func119 (strings_Split.ac _ _ _ hc1) .nil ?_)
 refine L.M (M.al Y124) ?_
 refine L.S (S.stb Y124) ?_
 refine AList.nil ?_
 refine AWp.seq ?_
 refine AWp.seq ?_
 refine AWp.region ?_
 refine L.S (S.ld Tryd.underlying124) ?_
 refine L.Y (Y.ln Tryd.underlying124) ?_
 refine L.Y Y.bin ?_
 refine L.Y Y.mv ?_
 refine L.Gc (fun hb => ?_) (fun hb => ?_)
 ·
  have hb2 := hb
  try simp only [hS, hE, ne_eq] at hb
  first | rw [if_pos hb2] at h | rw [if_neg (Bool.eq_false_iff.1 hb2)] at h | rw [if_pos hb] at h | rw [if_neg hb] at h | (simp only [hb, hT, reduceIte] at h) | skip
  refine L.Gn hb2 ?_
  refine L.Gn hb2 ?_
  refine L.Gn hb2 ?_
  refine L.Gn hb2 ?_
  refine L.Gn hb2 ?_
  refine L.Y (Y.pk (c := true) hb2) ?_
  refine AList.nil ?_
  rcases k with _ | k
  ·
   exact absurd h (by simp [impl_ParseTable.j0])
  simp only [impl_ParseTable.j0] at h
  refine W.cond (fun hb => ?_) (fun hb => ?_)
  rotate_left
  ·
   first | exact Bool.false_ne_true ((Eq.symm (by assumption)).trans hb) | exact Bool.false_ne_true (hb.symm.trans (by assumption)) | exact DD hb
  have hb3 := hb
  try (first | rw [if_pos hb3] at h | rw [if_neg (Bool.eq_false_iff.1 hb3)] at h | rw [if_pos hb] at h | rw [if_neg hb] at h | (simp only [hb, hT, reduceIte] at h) | skip)
  refine AWp.seq ?_
  refine W.kp [0, 2, 3, 4, 17] ?_
  refine AWp.region ?_
  refine L.Y (Y.bd Tryd.underlying59 Y59 P59) ?_
  refine L.S (S.stb Y59) ?_
  refine L.Y Y.asg ?_
  refine AList.nil ?_
  simp only [Option.some.injEq, Prod.mk.injEq] at h
  obtain ⟨rfl, rfl, rfl, rfl⟩ := h
  refine AWp.ret ?_
  exact ⟨.inr rfl, _, _, _, Res.c2 Tryd.underlying59 Y59, ⟨rfl, rfl⟩, PartV.at [(3, 1)] [3] base0 (H.c .nil)⟩
 ·
  have hb2 := hb
  try simp only [hS, hE, ne_eq] at hb
  first | rw [if_pos hb2] at h | rw [if_neg (Bool.eq_false_iff.1 hb2)] at h | rw [if_pos hb] at h | rw [if_neg hb] at h | (simp only [hb, hT, reduceIte] at h) | skip
  repeat (first | (rw [iN] at h; obtain ⟨_, h⟩ := h) | (rw [iP] at h; obtain ⟨_, h⟩ := h) | (simp only [bS] at h))
  refine L.Gs hb2 (S.ld Tryd.underlying124) ?_
  refine L.Gy hb2 (Y.ixo Tryd.underlying124 Y9) ?_
  refine L.Gs hb2 (S.ldT 1 0 Tryd.underlying9 en_str) ?_
  refine L.Gy hb2 (Y.ls Tryd.underlying9) ?_
  refine L.Gy hb2 Y.bin ?_
  refine L.Y (Y.pk (c := false) hb2) ?_
  refine AList.nil ?_
  rcases k with _ | k
  ·
   exact absurd h (by simp [impl_ParseTable.j0])
  simp only [impl_ParseTable.j0] at h
  refine W.cond (fun hb => ?_) (fun hb => ?_)
  ·
   have hb4 := hb
   try simp only [hS, hE, ne_eq] at hb
   first | rw [if_pos hb4] at h | rw [if_neg (Bool.eq_false_iff.1 hb4)] at h | rw [if_pos hb] at h | rw [if_neg hb] at h | (simp only [hb, hT, reduceIte] at h) | skip
   refine AWp.seq ?_
   refine W.kp [0, 2, 3, 4, 17] ?_
   refine AWp.region ?_
   refine L.Y (Y.bd Tryd.underlying59 Y59 P59) ?_
   refine L.S (S.stb Y59) ?_
   refine L.Y Y.asg ?_
   refine AList.nil ?_
   simp only [Option.some.injEq, Prod.mk.injEq] at h
   obtain ⟨rfl, rfl, rfl, rfl⟩ := h
   refine AWp.ret ?_
   exact ⟨.inr rfl, _, _, _, Res.c2 Tryd.underlying59 Y59, ⟨rfl, rfl⟩, PartV.at [(3, 1)] [3] base0 (H.c .nil)⟩
  ·
   have hb4 := hb
   try simp only [hS, hE, ne_eq] at hb
   first | rw [if_pos hb4] at h | rw [if_neg (Bool.eq_false_iff.1 hb4)] at h | rw [if_pos hb] at h | rw [if_neg hb] at h | (simp only [hb, hT, reduceIte] at h) | skip
   repeat (first | (rw [iN] at h; obtain ⟨_, h⟩ := h) | (rw [iP] at h; obtain ⟨_, h⟩ := h) | (simp only [bS] at h))
   refine AWp.skip ?_
   refine AWp.seq ?_
   refine W.kp [0, 2, 3, 4, 17] ?_
   replace h := Option.bind_eq_some_iff.1 h
   obtain ⟨⟨t345, t346, t347⟩, hc5, h⟩ := h
   dsimp only at h
   apply AWp.joinX
   ·
    refine Dt.reg [] [9] (.t 0 (.y 1 (.t 2 (.y 3 (.t 4 (.y 5 (.y 6 (.two 7 (.one 8 (.last 9 .done)) 8 (.one 7 (.last 9 .done)))))))))) HM ?_
    refine Dt.T rfl wantN (D.ld Tryd.underlying124) ?_
    refine Dt.Y rfl wantN (Y.ln Tryd.underlying124) ?_
    refine Dt.T rfl wantN (D.ld Tryd.underlying124) ?_
    refine Dt.Y rfl wantN (Y.ixo Tryd.underlying124 Y9) ?_
    refine Dt.T rfl wantN (D.ldT 1 0 Tryd.underlying9 en_str) ?_
    refine Dt.Y rfl wantN (Y.ls Tryd.underlying9) ?_
    refine Dt.Y rfl wantN Y.fn ?_
    refine Dt.B (g1 := false) (g2 := false) rfl rfl wantN wantN ?_ ?_
    ·
     skip
     refine Ox.C true [] Tryd.func109 (impl_table.ac _ _ _ _ _ _ _ hc5 120 _ (FnOk.at_ Tryd.func120) (by simp [noids, noid, noids_ints, Enc.cells_noids]) (fun x_ y_ r_ h_ => impl_ParseTable_1.ac x_ y_ _ r_ h_)) .nil ?_
     refine Dt.O (g' := false) rfl wantN ?_
     refine Ox.M (M.al Y59) ?_
     refine Dt.L rfl wantN ?_
     refine Op.S (S.stb Y59) ?_
     refine Du.nil ?_
     exact ⟨rfl, .inl ⟨rfl, rfl⟩⟩
    ·
     skip
     refine Ox.M (M.al Y59) ?_
     refine Dt.O (g' := false) rfl wantN ?_
     refine Ox.C true [] Tryd.func109 (impl_table.ac _ _ _ _ _ _ _ hc5 120 _ (FnOk.at_ Tryd.func120) (by simp [noids, noid, noids_ints, Enc.cells_noids]) (fun x_ y_ r_ h_ => impl_ParseTable_1.ac x_ y_ _ r_ h_)) .nil ?_
     refine Dt.L rfl wantN ?_
     refine Op.S (S.stb Y59) ?_
     refine Du.nil ?_
     exact ⟨rfl, .inr (IsPart.at [] [0, 1, 2, 4, 3] base0 (H.c (H.c (H.c (H.c (H.c .nil))))) (by repeat' first | exact .nil | refine E.c ?_))⟩
   ·
    skip
    refine AWp.seq ?_
    refine AWp.seq ?_
    refine W.kp [0, 2, 3, 4, 5, 17] ?_
    refine AWp.region ?_
    refine L.S (S.ldN Tryd.underlying59 Y59) ?_
    replace h := Option.bind_eq_some_iff.1 h
    obtain ⟨t351, hc6, h⟩ := h
    refine L.C (C.callE (l := true) [] Tryd.func45 (impl_IsTable.ac _ _ _ _ _ hc6) .nil ?_)
    refine L.Y Y.nt ?_
    refine L.Y Y.mv ?_
    refine L.Gc (fun hb => ?_) (fun hb => ?_)
    ·
     have hb7 := hb
     try simp only [hS, hE, ne_eq] at hb
     first | rw [if_pos hb7] at h | rw [if_neg (Bool.eq_false_iff.1 hb7)] at h | rw [if_pos hb] at h | rw [if_neg hb] at h | (simp only [hb, hT, reduceIte] at h) | skip
     refine L.Gn hb7 ?_
     refine L.Gn hb7 ?_
     refine L.Gn hb7 ?_
     refine L.Gn hb7 ?_
     refine L.Y (Y.pk (c := true) hb7) ?_
     refine AList.nil ?_
     refine W.cond (fun hb => ?_) (fun hb => ?_)
     rotate_left
     ·
      first | exact Bool.false_ne_true ((Eq.symm (by assumption)).trans hb) | exact Bool.false_ne_true (hb.symm.trans (by assumption)) | exact DD hb
     have hb8 := hb
     refine AWp.seq ?_
     refine W.kp [0, 2, 3, 4, 5, 17, 35] ?_
     refine AWp.region ?_
     refine L.Y (Y.bd Tryd.underlying59 Y59 P59) ?_
     refine L.S (S.stb Y59) ?_
     refine L.Y Y.asg ?_
     refine AList.nil ?_
     simp only [Option.some.injEq, Prod.mk.injEq] at h
     obtain ⟨rfl, rfl, rfl, rfl⟩ := h
     refine AWp.ret ?_
     exact ⟨.inr rfl, _, _, _, Res.c2 Tryd.underlying59 Y59, ⟨rfl, rfl⟩, PartV.at [(3, 1)] [5] base0 (H.c .nil)⟩
    ·
     have hb7 := hb
     try simp only [hS, hE, ne_eq] at hb
     first | rw [if_pos hb7] at h | rw [if_neg (Bool.eq_false_iff.1 hb7)] at h | rw [if_pos hb] at h | rw [if_neg hb] at h | (simp only [hb, hT, reduceIte] at h) | skip
     refine L.Gs hb7 (S.ldN Tryd.underlying59 Y59) ?_
     replace h := Option.bind_eq_some_iff.1 h
     obtain ⟨t352, hc9, h⟩ := h
     refine L.GC hb7 (C.callE (l := true) [] Tryd.func118 (impl_tableText.ac _ _ _ _ _ hc9) .nil ?_)
     refine L.Gy hb7 Y.mv ?_
     refine L.Gy hb7 Y.bin ?_
     refine L.Y (Y.pk (c := false) hb7) ?_
     refine AList.nil ?_
     refine W.cond (fun hb => ?_) (fun hb => ?_)
     ·
      have hb10 := hb
      try simp only [hS, hE, ne_eq] at hb
      first | rw [if_pos hb10] at h | rw [if_neg (Bool.eq_false_iff.1 hb10)] at h | rw [if_pos hb] at h | rw [if_neg hb] at h | (simp only [hb, hT, reduceIte] at h) | skip
      refine AWp.seq ?_
      refine W.kp [0, 2, 3, 4, 5, 17, 35] ?_
      refine AWp.region ?_
      refine L.Y (Y.bd Tryd.underlying59 Y59 P59) ?_
      refine L.S (S.stb Y59) ?_
      refine L.Y Y.asg ?_
      refine AList.nil ?_
      simp only [Option.some.injEq, Prod.mk.injEq] at h
      obtain ⟨rfl, rfl, rfl, rfl⟩ := h
      refine AWp.ret ?_
      exact ⟨.inr rfl, _, _, _, Res.c2 Tryd.underlying59 Y59, ⟨rfl, rfl⟩, PartV.at [(3, 1)] [5] base0 (H.c .nil)⟩
     ·
      have hb10 := hb
      try simp only [hS, hE, ne_eq] at hb
      first | rw [if_pos hb10] at h | rw [if_neg (Bool.eq_false_iff.1 hb10)] at h | rw [if_pos hb] at h | rw [if_neg hb] at h | (simp only [hb, hT, reduceIte] at h) | skip
      refine AWp.skip ?_
      refine AWp.seq ?_
      refine W.kp [0, 2, 3, 4, 5, 17, 35] ?_
      refine AWp.region ?_
      refine L.S (S.ldN Tryd.underlying59 Y59) ?_
      refine L.S (S.stb Y59) ?_
      refine L.Y Y.asg ?_
      refine AList.nil ?_
      simp only [Option.some.injEq, Prod.mk.injEq] at h
      obtain ⟨rfl, rfl, rfl, rfl⟩ := h
      refine AWp.ret ?_
      exact ⟨.inr rfl, _, _, _, Res.c2 Tryd.underlying59 Y59, ⟨rfl, rfl⟩, PartV.at [] [3] base0 (H.c .nil)⟩

/-! ### impl_Table_emptyCells: function 121 -/
mutual
def impl_Table_emptyCells.l0 : Nat → List Int → Int → Int → Int → Int → List Int → Option (List Int)
 | 0, _, _, _, _, _, _ => none
 | k + 1, x3, x8, x9, x354000, x354001, x354002 => if x9 < x8 then (impl_Table_emptyCells.l1 k x3 x9 x8 x9 x354001 0 x354000 x354001 x354002) else (some x3)
def impl_Table_emptyCells.l1 : Nat → List Int → Int → Int → Int → Int → Int → Int → Int → List Int → Option (List Int)
 | 0, _, _, _, _, _, _, _, _, _ => none
 | k + 1, x3, x4, x8, x9, x13, x14, x354000, x354001, x354002 => if x14 < x13 then ((impl_Table_marked.f x354000 x354001 x354002 x4 x14).bind fun t357 => (if t357 = true then (impl_Table_emptyCells.l1 k x3 x4 x8 x9 x13 (wrap64 (x14 + 1)) x354000 x354001 x354002) else (if x3.length < 17592186044416 then (impl_Table_emptyCells.l1 k (x3 ++ [wrap64 ((wrap64 (x4 * x354001)) + x14)]) x4 x8 x9 x13 (wrap64 (x14 + 1)) x354000 x354001 x354002) else (none)))) else (impl_Table_emptyCells.l0 k x3 x8 (wrap64 (x9 + 1)) x354000 x354001 x354002)
end
def impl_Table_emptyCells.f (k : Nat) (a0_0 : Int) (a0_1 : Int) (l0_2 : List Int) : Option (List Int) := impl_Table_emptyCells.l0 k (([] : List Int)) a0_0 0 a0_0 a0_1 l0_2
set_option maxRecDepth 100000 in
set_option maxHeartbeats 20000000 in
theorem impl_Table_emptyCells.ac (k : Nat) (a0_0 : Int) (a0_1 : Int) (l0_2 : List Int) (r : List Int) (h : impl_Table_emptyCells.f k a0_0 a0_1 l0_2 = some r) :
  ACalls Tryd.prog 121 [.agg [.lit (.int .i64 a0_0), .lit (.int .i64 a0_1), .row 1 l0_2.length false (ints .i64 l0_2)]] [] (fun v H' => v = .own 0 r.length ∧ H' = [.sl 3 1 r.length false (ints .i64 r)]) := by
 refine ACalls.ofP [2] Tryd.func121 rfl (by exact Nat.le_of_ble_eq_true rfl) rfl (by decide) ?_
 simp only [Tryd.ntmps121, env0, impl_Table_emptyCells.f] at h ⊢
 repeat (first | (rw [iN] at h; obtain ⟨_, h⟩ := h) | (rw [iP] at h; obtain ⟨_, h⟩ := h) | (simp only [bS] at h))
 refine AWp.seq ?_
 refine AWp.region ?_
 refine L.M M.bx ?_
 refine L.Y Y.asg ?_
 refine AList.nil ?_
 refine AWp.seq ?_
 refine AWp.region ?_
 refine L.M (M.bs Tryd.underlying22 Y3) ?_
 refine L.Y Y.asg ?_
 refine AList.nil ?_
 refine AWp.seq ?_
 refine AWp.seq ?_
 refine AWp.region ?_
 refine L.Y (Y.fa (off := 0) Tryd.underlying59 Y3) ?_
 refine L.S (S.ld Tryd.underlying3) ?_
 refine L.Y Y.mv ?_
 refine AList.nil ?_
 refine AWp.block ?_
 refine AWp.loopI (fun kk e H => kk ≤ k ∧ ∃ (x3 : List Int) (x8 : Int) (x9 : Int) (x354000 : Int) (x354001 : Int), e = [(1, .ptr 0 0), (2, .lit (.slice none 0 0)), (3, .own 1 x3.length), (8, .lit (.int .i64 x8)), (9, .lit (.int .i64 x9))] ∧ H = [.bx 59 [.lit (.int .i64 x354000), .lit (.int .i64 x354001), .row 1 l0_2.length false (ints .i64 l0_2)], .sl 3 1 x3.length true (ints .i64 x3)] ∧ impl_Table_emptyCells.l0 kk x3 x8 x9 x354000 x354001 l0_2 = some r) (k := k)
  ⟨_, _, ⟨Nat.le_refl _, _, _, _, _, _, rfl, rfl, h⟩, IsPart.at [] [0, 1] base0 (H.c (H.c .nil)) (E.c (E.c (E.c (E.c (E.c .nil)))))⟩ ?_
 clear h
 rintro k1 e H ⟨hk2, x3, x8, x9, x354000, x354001, rfl, rfl, h⟩
 cases k1 with
 | zero => exact absurd h (by simp [impl_Table_emptyCells.l0])
 | succ k1 =>
 simp only [impl_Table_emptyCells.l0] at h
 refine AWp.seq ?_
 refine AWp.region ?_
 refine L.Y Y.bin ?_
 refine AList.nil ?_
 refine AWp.seq ?_
 refine W.cond (fun hb => ?_) (fun hb => ?_)
 ·
  have hb3 := hb
  try simp only [hS, hE, ne_eq] at hb
  first | rw [if_pos hb3] at h | rw [if_neg (Bool.eq_false_iff.1 hb3)] at h | rw [if_pos hb] at h | rw [if_neg hb] at h | (simp only [hb, hT, reduceIte] at h) | skip
  refine AWp.skip ?_
  refine AWp.seq ?_
  refine AWp.block ?_
  refine AWp.seq ?_
  refine AWp.region ?_
  refine L.Y Y.mv ?_
  refine L.Y Y.asg ?_
  refine AList.nil ?_
  refine AWp.seq ?_
  refine AWp.region ?_
  refine L.Y (Y.fa (off := 1) Tryd.underlying59 Y3) ?_
  refine L.S (S.ld Tryd.underlying3) ?_
  refine L.Y Y.mv ?_
  refine AList.nil ?_
  refine AWp.block ?_
  refine AWp.loopI (fun kk e H => kk ≤ k1 ∧ ∃ (x3 : List Int) (x4 : Int) (x8 : Int) (x9 : Int) (x13 : Int) (x14 : Int) (x354000 : Int) (x354001 : Int), e = [(1, .ptr 0 0), (2, .lit (.slice none 0 0)), (3, .own 1 x3.length), (4, .lit (.int .i64 x4)), (8, .lit (.int .i64 x8)), (9, .lit (.int .i64 x9)), (13, .lit (.int .i64 x13)), (14, .lit (.int .i64 x14))] ∧ H = [.bx 59 [.lit (.int .i64 x354000), .lit (.int .i64 x354001), .row 1 l0_2.length false (ints .i64 l0_2)], .sl 3 1 x3.length true (ints .i64 x3)] ∧ impl_Table_emptyCells.l1 kk x3 x4 x8 x9 x13 x14 x354000 x354001 l0_2 = some r) (k := k1)
   ⟨_, _, ⟨Nat.le_refl _, _, _, _, _, _, _, _, _, rfl, rfl, h⟩, IsPart.at [] [0, 1] base0 (H.c (H.c .nil)) (E.c (E.c (E.c (E.c (E.c (E.c (E.c (E.c .nil))))))))⟩ ?_
  clear h
  rintro k4 e H ⟨hk5, x3, x4, x8, x9, x13, x14, x354000, x354001, rfl, rfl, h⟩
  cases k4 with
  | zero => exact absurd h (by simp [impl_Table_emptyCells.l1])
  | succ k4 =>
  simp only [impl_Table_emptyCells.l1] at h
  refine AWp.seq ?_
  refine AWp.region ?_
  refine L.Y Y.bin ?_
  refine AList.nil ?_
  refine AWp.seq ?_
  refine W.cond (fun hb => ?_) (fun hb => ?_)
  ·
   have hb6 := hb
   try simp only [hS, hE, ne_eq] at hb
   first | rw [if_pos hb6] at h | rw [if_neg (Bool.eq_false_iff.1 hb6)] at h | rw [if_pos hb] at h | rw [if_neg hb] at h | (simp only [hb, hT, reduceIte] at h) | skip
   refine AWp.skip ?_
   refine AWp.seq ?_
   refine AWp.block ?_
   refine AWp.seq ?_
   refine AWp.region ?_
   refine L.Y Y.mv ?_
   refine L.Y Y.asg ?_
   refine AList.nil ?_
   refine AWp.seq ?_
   refine AWp.region ?_
   refine L.S (S.ldN Tryd.underlying59 Y59) ?_
   refine L.Y Y.mv ?_
   refine L.Y Y.mv ?_
   replace h := Option.bind_eq_some_iff.1 h
   obtain ⟨t357, hc7, h⟩ := h
   refine L.C (C.callE (l := true) [] Tryd.func111 (impl_Table_marked.ac _ _ _ _ _ _ hc7) .nil ?_)
   refine L.Y Y.nt ?_
   refine AList.nil ?_
   refine W.cond (fun hb => ?_) (fun hb => ?_)
   ·
    have hb8 := hb
    try simp only [hS, hE, ne_eq] at hb
    first | rw [if_pos hb8] at h | rw [if_neg (Bool.eq_false_iff.1 hb8)] at h | rw [if_pos hb] at h | rw [if_neg hb] at h | (simp only [hb, hT, reduceIte] at h) | skip
    repeat (first | (rw [iN] at h; obtain ⟨_, h⟩ := h) | (rw [iP] at h; obtain ⟨_, h⟩ := h) | (simp only [bS] at h))
    refine W.kp [1, 2, 3, 4, 5, 8, 9, 13, 14, 15, 21] ?_
    refine AWp.region ?_
    refine L.Y Y.mv ?_
    refine L.Y Y.mv ?_
    refine L.Y (Y.fa (off := 1) Tryd.underlying59 Y3) ?_
    refine L.S (S.ld Tryd.underlying3) ?_
    refine L.Y Y.bin ?_
    refine L.Y Y.mv ?_
    refine L.Y Y.bin ?_
    refine L.M (M.bs Tryd.underlying22 Y3) ?_
    refine L.S (S.ap (nn' := true) Tryd.underlying22 Y3) ?_
    refine L.Y Y.asg ?_
    refine AList.nil ?_
    refine W.kp [1, 2, 3, 4, 5, 8, 9, 13, 14, 15, 21] ?_
    refine AWp.region ?_
    refine L.Y Y.bin ?_
    refine L.Y Y.mv ?_
    refine AList.nil ?_
    exact ⟨k4, by omega, _, _, ⟨by omega, _, _, _, _, _, _, _, _, rfl, rfl, h⟩, IsPart.at [] [0, 1] base0 (H.c (H.c .nil)) (E.c (E.c (E.c (E.c (E.c (E.c (E.c (E.c .nil))))))))⟩
   ·
    have hb8 := hb
    try simp only [hS, hE, ne_eq] at hb
    first | rw [if_pos hb8] at h | rw [if_neg (Bool.eq_false_iff.1 hb8)] at h | rw [if_pos hb] at h | rw [if_neg hb] at h | (simp only [hb, hT, reduceIte] at h) | skip
    refine AWp.skip ?_
    refine W.kp [1, 2, 3, 4, 5, 8, 9, 13, 14, 15, 21] ?_
    refine AWp.region ?_
    refine L.Y Y.bin ?_
    refine L.Y Y.mv ?_
    refine AList.nil ?_
    exact ⟨k4, by omega, _, _, ⟨by omega, _, _, _, _, _, _, _, _, rfl, rfl, h⟩, IsPart.at [] [0, 1] base0 (H.c (H.c .nil)) (E.c (E.c (E.c (E.c (E.c (E.c (E.c (E.c .nil))))))))⟩
  ·
   have hb6 := hb
   try simp only [hS, hE, ne_eq] at hb
   first | rw [if_pos hb6] at h | rw [if_neg (Bool.eq_false_iff.1 hb6)] at h | rw [if_pos hb] at h | rw [if_neg hb] at h | (simp only [hb, hT, reduceIte] at h) | skip
   refine AWp.exit ?_
   refine AWp.region ?_
   refine L.Y Y.bin ?_
   refine L.Y Y.mv ?_
   refine AList.nil ?_
   exact ⟨k4, by omega, _, _, ⟨by omega, _, _, _, _, _, rfl, rfl, h⟩, IsPart.at [] [0, 1] base0 (H.c (H.c .nil)) (E.c (E.c (E.c (E.c (E.c .nil)))))⟩
 ·
  have hb3 := hb
  try simp only [hS, hE, ne_eq] at hb
  first | rw [if_pos hb3] at h | rw [if_neg (Bool.eq_false_iff.1 hb3)] at h | rw [if_pos hb] at h | rw [if_neg hb] at h | (simp only [hb, hT, reduceIte] at h) | skip
  refine AWp.exit ?_
  refine AWp.seq ?_
  refine AWp.region ?_
  refine L.Y Y.mv ?_
  refine L.Y Y.asg ?_
  refine AList.nil ?_
  obtain rfl := Option.some.inj h
  refine AWp.ret ?_
  exact ⟨.inr rfl, [(2, _)], _, ⟨rfl, rfl⟩, IsPart.at [] [1] base0 (H.c .nil) (E.c .nil)⟩

/-! ### impl_EmptyCells: function 48 -/
def impl_EmptyCells.f (k : Nat) (a0_0 : Int) (a0_1 : Int) (l0_2 : List Int) : Option (List Int × Bool) := (impl_IsTable.f k a0_0 a0_1 l0_2).bind fun t362 => (if t362 = true then ((impl_Table_emptyCells.f k a0_0 a0_1 l0_2).bind fun t363 => (some (t363, true))) else (some (([] : List Int), false)))
set_option maxRecDepth 100000 in
set_option maxHeartbeats 20000000 in
theorem impl_EmptyCells.ac (k : Nat) (a0_0 : Int) (a0_1 : Int) (l0_2 : List Int) (r1 : List Int) (r2 : Bool) (h : impl_EmptyCells.f k a0_0 a0_1 l0_2 = some (r1, r2)) :
  ACalls Tryd.prog 48 [.agg [.lit (.int .i64 a0_0), .lit (.int .i64 a0_1), .row 1 l0_2.length false (ints .i64 l0_2)]] [] (fun v H' => v = .tup [.own 0 r1.length, .lit (.bool r2)] ∧ H' = [.sl 3 1 r1.length false (ints .i64 r1)]) := by
 refine ACalls.ofP [2, 3] Tryd.func48 rfl (by exact Nat.le_of_ble_eq_true rfl) rfl (by decide) ?_
 simp only [Tryd.ntmps48, env0, impl_EmptyCells.f] at h ⊢
 refine AWp.seq ?_
 refine AWp.region ?_
 refine L.M M.bx ?_
 refine L.Y Y.asg ?_
 refine L.Y Y.asg ?_
 refine AList.nil ?_
 refine AWp.seq ?_
 refine AWp.seq ?_
 refine AWp.region ?_
 refine L.S (S.ldN Tryd.underlying59 Y59) ?_
 replace h := Option.bind_eq_some_iff.1 h
 obtain ⟨t362, hc1, h⟩ := h
 refine L.C (C.callE (l := true) [] Tryd.func45 (impl_IsTable.ac _ _ _ _ _ hc1) .nil ?_)
 refine L.Y Y.nt ?_
 refine AList.nil ?_
 refine W.cond (fun hb => ?_) (fun hb => ?_)
 ·
  have hb2 := hb
  try simp only [hS, hE, ne_eq] at hb
  first | rw [if_pos hb2] at h | rw [if_neg (Bool.eq_false_iff.1 hb2)] at h | rw [if_pos hb] at h | rw [if_neg hb] at h | (simp only [hb, hT, reduceIte] at h) | skip
  refine AWp.seq ?_
  refine AWp.region ?_
  refine L.Y Y.asg ?_
  refine L.Y Y.asg ?_
  refine AList.nil ?_
  simp only [Option.some.injEq, Prod.mk.injEq] at h
  obtain ⟨rfl, rfl⟩ := h
  refine AWp.ret ?_
  exact ⟨.inr rfl, [(2, _), (3, _)], _, ⟨rfl, rfl⟩, IsPart.at [(3, 1)] [1] base0 (H.c .nil) (E.c (E.c .nil))⟩
 ·
  have hb2 := hb
  try simp only [hS, hE, ne_eq] at hb
  first | rw [if_pos hb2] at h | rw [if_neg (Bool.eq_false_iff.1 hb2)] at h | rw [if_pos hb] at h | rw [if_neg hb] at h | (simp only [hb, hT, reduceIte] at h) | skip
  refine AWp.skip ?_
  refine AWp.seq ?_
  refine AWp.region ?_
  refine L.S (S.ldN Tryd.underlying59 Y59) ?_
  replace h := Option.bind_eq_some_iff.1 h
  obtain ⟨t363, hc3, h⟩ := h
  refine L.C (C.callE (l := true) [] Tryd.func121 (impl_Table_emptyCells.ac _ _ _ _ _ hc3) .nil ?_)
  refine L.Y Y.asg ?_
  refine L.Y Y.asg ?_
  refine AList.nil ?_
  simp only [Option.some.injEq, Prod.mk.injEq] at h
  obtain ⟨rfl, rfl⟩ := h
  refine AWp.ret ?_
  exact ⟨.inr rfl, [(2, _), (3, _)], _, ⟨rfl, rfl⟩, IsPart.at [] [1] base0 (H.c .nil) (E.c (E.c .nil))⟩

/-! ### laws_vMarked: function 49 -/
def laws_vMarked.f (a0_0 : Int) (a0_1 : Int) (l0_2 : List Int) (a1 : Int) : Option (Bool) := if a0_1 = 0 then (none) else (if 0 ≤ (wrap64 (Int.tdiv a1 a0_1)) then (if (wrap64 (Int.tdiv a1 a0_1)) < (l0_2.length : Int) then (if 0 ≤ (Int.tmod a1 a0_1) then (some ((Int.tmod (shr .i64 (rd l0_2 (wrap64 (Int.tdiv a1 a0_1))) (Int.tmod a1 a0_1)) 2) == 1)) else (none)) else (none)) else (none))
set_option maxRecDepth 100000 in
set_option maxHeartbeats 20000000 in
theorem laws_vMarked.ac (a0_0 : Int) (a0_1 : Int) (l0_2 : List Int) (a1 : Int) (r : Bool) (h : laws_vMarked.f a0_0 a0_1 l0_2 a1 = some r) :
  ACalls Tryd.prog 49 [.agg [.lit (.int .i64 a0_0), .lit (.int .i64 a0_1), .row 1 l0_2.length false (ints .i64 l0_2)], .lit (.int .i64 a1)] [] (fun v H' => v = .lit (.bool r) ∧ H' = []) := by
 refine ACalls.ofP [4] Tryd.func49 rfl (by exact Nat.le_of_ble_eq_true rfl) rfl (by decide) ?_
 simp only [Tryd.ntmps49, env0, laws_vMarked.f] at h ⊢
 repeat (first | (rw [iN] at h; obtain ⟨_, h⟩ := h) | (rw [iP] at h; obtain ⟨_, h⟩ := h) | (simp only [bS] at h))
 refine AWp.seq ?_
 refine AWp.region ?_
 refine L.M M.bx ?_
 refine L.Y Y.asg ?_
 refine AList.nil ?_
 refine AWp.seq ?_
 refine Dt.reg [] [] (.y 0 (.t 1 (.y 2 (.y 3 (.t 4 (.y 5 (.y 6 (.t 7 (.y 8 (.y 9 (.t 10 (.y 11 (.y 12 (.y 13 (.y 14 (.y 15 .done)))))))))))))))) HM ?_
 refine Dt.Y rfl wantN (Y.fa (off := 2) Tryd.underlying59 Y22) ?_
 refine Dt.T rfl wantN (D.ld Tryd.underlying22) ?_
 refine Dt.Y rfl wantN Y.mv ?_
 refine Dt.Y rfl wantN (Y.fa (off := 1) Tryd.underlying59 Y3) ?_
 refine Dt.T rfl wantN (D.ld Tryd.underlying3) ?_
 refine Dt.Y rfl wantN Y.bin ?_
 refine Dt.Y rfl wantN (Y.ixr Tryd.underlying22 Y3) ?_
 refine Dt.T rfl wantN (D.ld Tryd.underlying3) ?_
 refine Dt.Y rfl wantN Y.mv ?_
 refine Dt.Y rfl wantN (Y.fa (off := 1) Tryd.underlying59 Y3) ?_
 refine Dt.T rfl wantN (D.ld Tryd.underlying3) ?_
 refine Dt.Y rfl wantN Y.bin ?_
 refine Dt.Y rfl wantN Y.bin ?_
 refine Dt.Y rfl wantN Y.bin ?_
 refine Dt.Y rfl wantN Y.bin ?_
 refine Dt.Y rfl wantN Y.asg ?_
 refine Dt.nil ?_
 obtain rfl := Option.some.inj h
 refine AWp.ret ?_
 exact ⟨.inr rfl, [(4, _)], _, ⟨rfl, rfl⟩, IsPart.at [] [] base0 .nil (E.c .nil)⟩

/-! ### laws_vHas: function 50 -/
def laws_vHas.l0 : Nat → Int → List Int → Int → Int → Option (Bool)
 | 0, _, _, _, _ => none
 | k + 1, x1, x7, x8, x9 => if x9 < x8 then (if 0 ≤ x9 then (if x9 < (x7.length : Int) then (if (rd x7 x9) = x1 then (some true) else (laws_vHas.l0 k x1 x7 x8 (wrap64 (x9 + 1)))) else (none)) else (none)) else (some false)
def laws_vHas.f (k : Nat) (l0 : List Int) (a1 : Int) : Option (Bool) := laws_vHas.l0 k a1 l0 (l0.length : Int) 0
set_option maxRecDepth 100000 in
set_option maxHeartbeats 20000000 in
theorem laws_vHas.ac (k : Nat) (l0 : List Int) (a1 : Int) (r : Bool) (h : laws_vHas.f k l0 a1 = some r) :
  ACalls Tryd.prog 50 [.row 1 l0.length false (ints .i64 l0), .lit (.int .i64 a1)] [] (fun v H' => v = .lit (.bool r) ∧ H' = []) := by
 refine ACalls.ofP [4] Tryd.func50 rfl (by exact Nat.le_of_ble_eq_true rfl) rfl (by decide) ?_
 simp only [Tryd.ntmps50, env0, laws_vHas.f] at h ⊢
 refine AWp.seq ?_
 refine AWp.region ?_
 refine L.Y Y.asg ?_
 refine AList.nil ?_
 refine AWp.seq ?_
 refine AWp.seq ?_
 refine AWp.region ?_
 refine L.Y Y.mv ?_
 refine L.Y (Y.ln Tryd.underlying22) ?_
 refine L.Y Y.mv ?_
 refine AList.nil ?_
 refine AWp.block ?_
 refine AWp.loopI (fun kk e H => kk ≤ k ∧ ∃ (x1 : Int) (x8 : Int) (x9 : Int), e = [(1, .lit (.int .i64 x1)), (7, .row 1 l0.length false (ints .i64 l0)), (8, .lit (.int .i64 x8)), (9, .lit (.int .i64 x9))] ∧ H = [] ∧ laws_vHas.l0 kk x1 l0 x8 x9 = some r) (k := k)
  ⟨_, _, ⟨Nat.le_refl _, _, _, _, rfl, rfl, h⟩, IsPart.at [] [] base0 .nil (E.c (E.c (E.c (E.c .nil))))⟩ ?_
 clear h
 rintro k1 e H ⟨hk2, x1, x8, x9, rfl, rfl, h⟩
 cases k1 with
 | zero => exact absurd h (by simp [laws_vHas.l0])
 | succ k1 =>
 simp only [laws_vHas.l0] at h
 refine AWp.seq ?_
 refine AWp.region ?_
 refine L.Y Y.bin ?_
 refine AList.nil ?_
 refine AWp.seq ?_
 refine W.cond (fun hb => ?_) (fun hb => ?_)
 ·
  have hb3 := hb
  try simp only [hS, hE, ne_eq] at hb
  first | rw [if_pos hb3] at h | rw [if_neg (Bool.eq_false_iff.1 hb3)] at h | rw [if_pos hb] at h | rw [if_neg hb] at h | (simp only [hb, hT, reduceIte] at h) | skip
  repeat (first | (rw [iN] at h; obtain ⟨_, h⟩ := h) | (rw [iP] at h; obtain ⟨_, h⟩ := h) | (simp only [bS] at h))
  refine AWp.skip ?_
  refine AWp.seq ?_
  refine AWp.block ?_
  refine AWp.seq ?_
  refine AWp.region ?_
  refine L.Y (Y.ixr Tryd.underlying22 Y3) ?_
  refine L.S (S.ld Tryd.underlying3) ?_
  refine L.Y Y.asg ?_
  refine AList.nil ?_
  refine AWp.seq ?_
  refine AWp.region ?_
  refine L.Y Y.mv ?_
  refine L.Y Y.mv ?_
  refine L.Y Y.bin ?_
  refine AList.nil ?_
  refine W.cond (fun hb => ?_) (fun hb => ?_)
  ·
   have hb4 := hb
   try simp only [hS, hE, ne_eq] at hb
   first | rw [if_pos hb4] at h | rw [if_neg (Bool.eq_false_iff.1 hb4)] at h | rw [if_pos hb] at h | rw [if_neg hb] at h | (simp only [hb, hT, reduceIte] at h) | skip
   refine AWp.seq ?_
   refine W.kp [1, 6, 7, 8, 9, 10, 15] ?_
   refine AWp.region ?_
   refine L.Y Y.asg ?_
   refine AList.nil ?_
   obtain rfl := Option.some.inj h
   refine AWp.ret ?_
   exact ⟨.inr rfl, [(4, _)], _, ⟨rfl, rfl⟩, IsPart.at [] [] base0 .nil (E.c .nil)⟩
  ·
   have hb4 := hb
   try simp only [hS, hE, ne_eq] at hb
   first | rw [if_pos hb4] at h | rw [if_neg (Bool.eq_false_iff.1 hb4)] at h | rw [if_pos hb] at h | rw [if_neg hb] at h | (simp only [hb, hT, reduceIte] at h) | skip
   refine AWp.skip ?_
   refine W.kp [1, 6, 7, 8, 9, 10, 15] ?_
   refine AWp.region ?_
   refine L.Y Y.bin ?_
   refine L.Y Y.mv ?_
   refine AList.nil ?_
   exact ⟨k1, by omega, _, _, ⟨by omega, _, _, _, rfl, rfl, h⟩, IsPart.at [] [] base0 .nil (E.c (E.c (E.c (E.c .nil))))⟩
 ·
  have hb3 := hb
  try simp only [hS, hE, ne_eq] at hb
  first | rw [if_pos hb3] at h | rw [if_neg (Bool.eq_false_iff.1 hb3)] at h | rw [if_pos hb] at h | rw [if_neg hb] at h | (simp only [hb, hT, reduceIte] at h) | skip
  refine AWp.exit ?_
  refine AWp.seq ?_
  refine AWp.region ?_
  refine L.Y Y.asg ?_
  refine AList.nil ?_
  obtain rfl := Option.some.inj h
  refine AWp.ret ?_
  exact ⟨.inr rfl, [(4, _)], _, ⟨rfl, rfl⟩, IsPart.at [] [] base0 .nil (E.c .nil)⟩

end Go.Proofs.YtakabmokpknknaaDoor.PFnTablesTurned
