-- Written by a program of this session's (wip/myprint2): the functions by the kit's print, the walks by awgen.py. Lean checks it.
import Derived.Test.YtpippjgphndjmaaPFnMeetsOfBiordersx0
import Derived.Test.YtpippjgphndjmaaPFnMeetsOfBiordersx3
namespace Go.Proofs.Ytpippjgphndjmaa.PFnMeetsOfBiorders
open Go.RowKit Go.Proofs.YtpippjgphndjmaaW.PrintWords Go.Proofs.YtpippjgphndjmaaW.PrintLast Go.Proofs.YtpippjgphndjmaaW.PrintMore Go.Proofs.YtpippjgphndjmaaM Go.Proofs.YtpippjgphndjmaaA
attribute [local go_sem] max2_int min2_int max_two min_two max_three min_three max_four min_four   -- for this text's walks alone
set_option linter.unusedVariables false
set_option linter.unusedSimpArgs false

/-! ### impl_Table_fourCells: function 57 -/
mutual
def impl_Table_fourCells.l0 : Nat → Int → Int → Int → Int → List Int → Option (List Int)
 | 0, _, _, _, _, _ => none
 | k + 1, x8, x9, x245000, x245001, x245002 => if x9 < x8 then (impl_Table_fourCells.l1 k x9 x8 x9 x245001 0 x245000 x245001 x245002) else (some ([] : List Int))
def impl_Table_fourCells.l1 : Nat → Int → Int → Int → Int → Int → Int → Int → List Int → Option (List Int)
 | 0, _, _, _, _, _, _, _, _ => none
 | k + 1, x3, x8, x9, x13, x14, x245000, x245001, x245002 => if x14 < x13 then (impl_Table_fourCells.l2 k x3 x14 x8 x9 x13 x14 x245000 0 x245000 x245001 x245002) else (impl_Table_fourCells.l0 k x8 (wrap64 (x9 + 1)) x245000 x245001 x245002)
def impl_Table_fourCells.l2 : Nat → Int → Int → Int → Int → Int → Int → Int → Int → Int → Int → List Int → Option (List Int)
 | 0, _, _, _, _, _, _, _, _, _, _, _ => none
 | k + 1, x3, x4, x8, x9, x13, x14, x18, x19, x245000, x245001, x245002 => if x19 < x18 then (impl_Table_fourCells.l3 k x3 x4 x19 x8 x9 x13 x14 x18 x19 x245001 0 x245000 x245001 x245002) else (impl_Table_fourCells.l1 k x3 x8 x9 x13 (wrap64 (x14 + 1)) x245000 x245001 x245002)
def impl_Table_fourCells.l3 : Nat → Int → Int → Int → Int → Int → Int → Int → Int → Int → Int → Int → Int → Int → List Int → Option (List Int)
 | 0, _, _, _, _, _, _, _, _, _, _, _, _, _, _ => none
 | k + 1, x3, x4, x5, x8, x9, x13, x14, x18, x19, x23, x24, x245000, x245001, x245002 => if x24 < x23 then ((impl_Table_marked.f x245000 x245001 x245002 x3 x4).bind fun t245 => (if t245 = true then ((impl_Table_marked.f x245000 x245001 x245002 x3 x24).bind fun t246 => (if t246 = true then (impl_Table_fourCells.l3 k x3 x4 x5 x8 x9 x13 x14 x18 x19 x23 (wrap64 (x24 + 1)) x245000 x245001 x245002) else ((impl_Table_marked.f x245000 x245001 x245002 x5 x24).bind fun t247 => (if t247 = true then ((impl_Table_marked.f x245000 x245001 x245002 x5 x4).bind fun t248 => (if t248 = true then (impl_Table_fourCells.l3 k x3 x4 x5 x8 x9 x13 x14 x18 x19 x23 (wrap64 (x24 + 1)) x245000 x245001 x245002) else ((some (([x3, x4, x5, x24] : List Int) : List Int)).bind fun y249 => (if y249 = [] then (none) else (some y249))))) else (impl_Table_fourCells.l3 k x3 x4 x5 x8 x9 x13 x14 x18 x19 x23 (wrap64 (x24 + 1)) x245000 x245001 x245002))))) else (impl_Table_fourCells.l3 k x3 x4 x5 x8 x9 x13 x14 x18 x19 x23 (wrap64 (x24 + 1)) x245000 x245001 x245002))) else (impl_Table_fourCells.l2 k x3 x4 x8 x9 x13 x14 x18 (wrap64 (x19 + 1)) x245000 x245001 x245002)
end
def impl_Table_fourCells.f (k : Nat) (a0_0 : Int) (a0_1 : Int) (l0_2 : List Int) : Option (List Int) := impl_Table_fourCells.l0 k a0_0 0 a0_0 a0_1 l0_2
set_option maxRecDepth 100000 in
set_option maxHeartbeats 20000000 in
theorem impl_Table_fourCells.acq (k : Nat) (a0_0 : Int) (a0_1 : Int) (l0_2 : List Int) (r : List Int) (h : impl_Table_fourCells.f k a0_0 a0_1 l0_2 = some r) :
  ACalls Try.prog 57 [.agg [.lit (.int .i64 a0_0), .lit (.int .i64 a0_1), .row 1 l0_2.length false (ints .i64 l0_2)]] [] (fun v H' => (r = [] ∧ v = .lit (.slice none 0 0) ∧ H' = []) ∨ (r ≠ [] ∧ v = .own 0 r.length ∧ H' = [.sl 3 1 r.length true (ints .i64 r)])) := by
 refine ACalls.ofP [2] Try.func57 rfl (by exact Nat.le_of_ble_eq_true rfl) rfl (by decide) ?_
 simp only [Try.ntmps57, env0, impl_Table_fourCells.f] at h ⊢
 refine AWp.seq ?_
 refine AWp.region ?_
 refine L.M M.bx ?_
 refine L.Y Y.asg ?_
 refine AList.nil ?_
 refine AWp.seq ?_
 refine AWp.seq ?_
 refine AWp.region ?_
 refine L.Y (Y.fa (off := 0) Try.underlying28 Y3) ?_
 refine L.S (S.ld Try.underlying3) ?_
 refine L.Y Y.mv ?_
 refine AList.nil ?_
 refine AWp.block ?_
 refine AWp.loopI (fun kk e H => kk ≤ k ∧ ∃ (x8 : Int) (x9 : Int) (x245000 : Int) (x245001 : Int), e = [(1, .ptr 0 0), (8, .lit (.int .i64 x8)), (9, .lit (.int .i64 x9))] ∧ H = [.bx 28 [.lit (.int .i64 x245000), .lit (.int .i64 x245001), .row 1 l0_2.length false (ints .i64 l0_2)]] ∧ impl_Table_fourCells.l0 kk x8 x9 x245000 x245001 l0_2 = some r) (k := k)
  ⟨_, _, ⟨Nat.le_refl _, _, _, _, _, rfl, rfl, h⟩, IsPart.at [] [0] base0 (H.c .nil) (E.c (E.c (E.c .nil)))⟩ ?_
 clear h
 rintro k1 e H ⟨hk2, x8, x9, x245000, x245001, rfl, rfl, h⟩
 cases k1 with
 | zero => exact absurd h (by simp [impl_Table_fourCells.l0])
 | succ k1 =>
 simp only [impl_Table_fourCells.l0] at h
 refine AWp.seq ?_
 refine AWp.region ?_
 refine L.Y Y.bin ?_
 refine AList.nil ?_
 refine AWp.seq ?_
 refine W.cond (fun hb => ?_) (fun hb => ?_)
 ·
  have hb3 := hb
  try simp only [hS, hE, ne_eq] at hb
  first | rw [if_pos hb3] at h | rw [if_neg (Bool.eq_false_iff.1 hb3)] at h | rw [if_pos hb] at h | rw [if_neg hb] at h | (simp only [hb, hT, reduceIte] at h) | skip
  refine AWp.skip ?_
  refine AWp.seq ?_
  refine AWp.block ?_
  refine AWp.seq ?_
  refine AWp.region ?_
  refine L.Y Y.mv ?_
  refine L.Y Y.asg ?_
  refine AList.nil ?_
  refine AWp.seq ?_
  refine AWp.region ?_
  refine L.Y (Y.fa (off := 1) Try.underlying28 Y3) ?_
  refine L.S (S.ld Try.underlying3) ?_
  refine L.Y Y.mv ?_
  refine AList.nil ?_
  refine AWp.block ?_
  refine AWp.loopI (fun kk e H => kk ≤ k1 ∧ ∃ (x3 : Int) (x8 : Int) (x9 : Int) (x13 : Int) (x14 : Int) (x245000 : Int) (x245001 : Int), e = [(1, .ptr 0 0), (3, .lit (.int .i64 x3)), (8, .lit (.int .i64 x8)), (9, .lit (.int .i64 x9)), (13, .lit (.int .i64 x13)), (14, .lit (.int .i64 x14))] ∧ H = [.bx 28 [.lit (.int .i64 x245000), .lit (.int .i64 x245001), .row 1 l0_2.length false (ints .i64 l0_2)]] ∧ impl_Table_fourCells.l1 kk x3 x8 x9 x13 x14 x245000 x245001 l0_2 = some r) (k := k1)
   ⟨_, _, ⟨Nat.le_refl _, _, _, _, _, _, _, _, rfl, rfl, h⟩, IsPart.at [] [0] base0 (H.c .nil) (E.c (E.c (E.c (E.c (E.c (E.c .nil))))))⟩ ?_
  clear h
  rintro k4 e H ⟨hk5, x3, x8, x9, x13, x14, x245000, x245001, rfl, rfl, h⟩
  cases k4 with
  | zero => exact absurd h (by simp [impl_Table_fourCells.l1])
  | succ k4 =>
  simp only [impl_Table_fourCells.l1] at h
  refine AWp.seq ?_
  refine AWp.region ?_
  refine L.Y Y.bin ?_
  refine AList.nil ?_
  refine AWp.seq ?_
  refine W.cond (fun hb => ?_) (fun hb => ?_)
  ·
   have hb6 := hb
   try simp only [hS, hE, ne_eq] at hb
   first | rw [if_pos hb6] at h | rw [if_neg (Bool.eq_false_iff.1 hb6)] at h | rw [if_pos hb] at h | rw [if_neg hb] at h | (simp only [hb, hT, reduceIte] at h) | skip
   refine AWp.skip ?_
   refine AWp.seq ?_
   refine AWp.block ?_
   refine AWp.seq ?_
   refine AWp.region ?_
   refine L.Y Y.mv ?_
   refine L.Y Y.asg ?_
   refine AList.nil ?_
   refine AWp.seq ?_
   refine AWp.region ?_
   refine L.Y (Y.fa (off := 0) Try.underlying28 Y3) ?_
   refine L.S (S.ld Try.underlying3) ?_
   refine L.Y Y.mv ?_
   refine AList.nil ?_
   refine AWp.block ?_
   refine AWp.loopI (fun kk e H => kk ≤ k4 ∧ ∃ (x3 : Int) (x4 : Int) (x8 : Int) (x9 : Int) (x13 : Int) (x14 : Int) (x18 : Int) (x19 : Int) (x245000 : Int) (x245001 : Int), e = [(1, .ptr 0 0), (3, .lit (.int .i64 x3)), (4, .lit (.int .i64 x4)), (8, .lit (.int .i64 x8)), (9, .lit (.int .i64 x9)), (13, .lit (.int .i64 x13)), (14, .lit (.int .i64 x14)), (18, .lit (.int .i64 x18)), (19, .lit (.int .i64 x19))] ∧ H = [.bx 28 [.lit (.int .i64 x245000), .lit (.int .i64 x245001), .row 1 l0_2.length false (ints .i64 l0_2)]] ∧ impl_Table_fourCells.l2 kk x3 x4 x8 x9 x13 x14 x18 x19 x245000 x245001 l0_2 = some r) (k := k4)
    ⟨_, _, ⟨Nat.le_refl _, _, _, _, _, _, _, _, _, _, _, rfl, rfl, h⟩, IsPart.at [] [0] base0 (H.c .nil) (E.c (E.c (E.c (E.c (E.c (E.c (E.c (E.c (E.c .nil)))))))))⟩ ?_
   clear h
   rintro k7 e H ⟨hk8, x3, x4, x8, x9, x13, x14, x18, x19, x245000, x245001, rfl, rfl, h⟩
   cases k7 with
   | zero => exact absurd h (by simp [impl_Table_fourCells.l2])
   | succ k7 =>
   simp only [impl_Table_fourCells.l2] at h
   refine AWp.seq ?_
   refine AWp.region ?_
   refine L.Y Y.bin ?_
   refine AList.nil ?_
   refine AWp.seq ?_
   refine W.cond (fun hb => ?_) (fun hb => ?_)
   ·
    have hb9 := hb
    try simp only [hS, hE, ne_eq] at hb
    first | rw [if_pos hb9] at h | rw [if_neg (Bool.eq_false_iff.1 hb9)] at h | rw [if_pos hb] at h | rw [if_neg hb] at h | (simp only [hb, hT, reduceIte] at h) | skip
    refine AWp.skip ?_
    refine AWp.seq ?_
    refine AWp.block ?_
    refine AWp.seq ?_
    refine AWp.region ?_
    refine L.Y Y.mv ?_
    refine L.Y Y.asg ?_
    refine AList.nil ?_
    refine AWp.seq ?_
    refine AWp.region ?_
    refine L.Y (Y.fa (off := 1) Try.underlying28 Y3) ?_
    refine L.S (S.ld Try.underlying3) ?_
    refine L.Y Y.mv ?_
    refine AList.nil ?_
    refine AWp.block ?_
    refine AWp.loopI (fun kk e H => kk ≤ k7 ∧ ∃ (x3 : Int) (x4 : Int) (x5 : Int) (x8 : Int) (x9 : Int) (x13 : Int) (x14 : Int) (x18 : Int) (x19 : Int) (x23 : Int) (x24 : Int) (x245000 : Int) (x245001 : Int), e = [(1, .ptr 0 0), (3, .lit (.int .i64 x3)), (4, .lit (.int .i64 x4)), (5, .lit (.int .i64 x5)), (8, .lit (.int .i64 x8)), (9, .lit (.int .i64 x9)), (13, .lit (.int .i64 x13)), (14, .lit (.int .i64 x14)), (18, .lit (.int .i64 x18)), (19, .lit (.int .i64 x19)), (23, .lit (.int .i64 x23)), (24, .lit (.int .i64 x24))] ∧ H = [.bx 28 [.lit (.int .i64 x245000), .lit (.int .i64 x245001), .row 1 l0_2.length false (ints .i64 l0_2)]] ∧ impl_Table_fourCells.l3 kk x3 x4 x5 x8 x9 x13 x14 x18 x19 x23 x24 x245000 x245001 l0_2 = some r) (k := k7)
     ⟨_, _, ⟨Nat.le_refl _, _, _, _, _, _, _, _, _, _, _, _, _, _, rfl, rfl, h⟩, IsPart.at [] [0] base0 (H.c .nil) (E.c (E.c (E.c (E.c (E.c (E.c (E.c (E.c (E.c (E.c (E.c (E.c .nil))))))))))))⟩ ?_
    clear h
    rintro k10 e H ⟨hk11, x3, x4, x5, x8, x9, x13, x14, x18, x19, x23, x24, x245000, x245001, rfl, rfl, h⟩
    cases k10 with
    | zero => exact absurd h (by simp [impl_Table_fourCells.l3])
    | succ k10 =>
    simp only [impl_Table_fourCells.l3] at h
    refine AWp.seq ?_
    refine AWp.region ?_
    refine L.Y Y.bin ?_
    refine AList.nil ?_
    refine AWp.seq ?_
    refine W.cond (fun hb => ?_) (fun hb => ?_)
    ·
     have hb12 := hb
     try simp only [hS, hE, ne_eq] at hb
     first | rw [if_pos hb12] at h | rw [if_neg (Bool.eq_false_iff.1 hb12)] at h | rw [if_pos hb] at h | rw [if_neg hb] at h | (simp only [hb, hT, reduceIte] at h) | skip
     refine AWp.skip ?_
     refine AWp.seq ?_
     refine AWp.block ?_
     refine AWp.seq ?_
     refine AWp.region ?_
     refine L.Y Y.mv ?_
     refine L.Y Y.asg ?_
     refine AList.nil ?_
     refine AWp.seq ?_
     refine AWp.region ?_
     refine L.S (S.ldN Try.underlying28 Y28) ?_
     refine L.Y Y.mv ?_
     refine L.Y Y.mv ?_
     obtain ⟨t245, hc13, h⟩ := Option.bind_eq_some_iff.1 h
     refine L.C (C.callE (l := true) [] Try.func60 (impl_Table_marked.ac _ _ _ _ _ _ hc13) .nil ?_)
     refine L.Y Y.mv ?_
     refine L.Gc (fun hb => ?_) (fun hb => ?_)
     ·
      have hb14 := hb
      try simp only [hS, hE, ne_eq] at hb
      first | rw [if_pos hb14] at h | rw [if_neg (Bool.eq_false_iff.1 hb14)] at h | rw [if_pos hb] at h | rw [if_neg hb] at h | (simp only [hb, hT, reduceIte] at h) | skip
      refine L.Gs hb14 (S.ldN Try.underlying28 Y28) ?_
      refine L.Gy hb14 Y.mv ?_
      refine L.Gy hb14 Y.mv ?_
      obtain ⟨t246, hc15, h⟩ := Option.bind_eq_some_iff.1 h
      refine L.GC hb14 (C.callE (l := true) [] Try.func60 (impl_Table_marked.ac _ _ _ _ _ _ hc15) .nil ?_)
      refine L.Gy hb14 Y.nt ?_
      refine L.Y (Y.pk (c := true) hb14) ?_
      refine L.Y Y.mv ?_
      refine L.Gc (fun hb => ?_) (fun hb => ?_)
      ·
       have hb16 := hb
       try simp only [hS, hE, ne_eq] at hb
       first | rw [if_pos hb16] at h | rw [if_neg (Bool.eq_false_iff.1 hb16)] at h | rw [if_pos hb] at h | rw [if_neg hb] at h | (simp only [hb, hT, reduceIte] at h) | skip
       refine L.Gs hb16 (S.ldN Try.underlying28 Y28) ?_
       refine L.Gy hb16 Y.mv ?_
       refine L.Gy hb16 Y.mv ?_
       obtain ⟨t247, hc17, h⟩ := Option.bind_eq_some_iff.1 h
       refine L.GC hb16 (C.callE (l := true) [] Try.func60 (impl_Table_marked.ac _ _ _ _ _ _ hc17) .nil ?_)
       refine L.Y (Y.pk (c := true) hb16) ?_
       refine L.Y Y.mv ?_
       refine L.Gc (fun hb => ?_) (fun hb => ?_)
       ·
        have hb18 := hb
        try simp only [hS, hE, ne_eq] at hb
        first | rw [if_pos hb18] at h | rw [if_neg (Bool.eq_false_iff.1 hb18)] at h | rw [if_pos hb] at h | rw [if_neg hb] at h | (simp only [hb, hT, reduceIte] at h) | skip
        refine L.Gs hb18 (S.ldN Try.underlying28 Y28) ?_
        refine L.Gy hb18 Y.mv ?_
        refine L.Gy hb18 Y.mv ?_
        obtain ⟨t248, hc19, h⟩ := Option.bind_eq_some_iff.1 h
        refine L.GC hb18 (C.callE (l := true) [] Try.func60 (impl_Table_marked.ac _ _ _ _ _ _ hc19) .nil ?_)
        refine L.Gy hb18 Y.nt ?_
        refine L.Y (Y.pk (c := true) hb18) ?_
        refine AList.nil ?_
        refine W.cond (fun hb => ?_) (fun hb => ?_)
        ·
         have hb20 := hb
         try simp only [hS, hE, ne_eq] at hb
         first | rw [if_pos hb20] at h | rw [if_neg (Bool.eq_false_iff.1 hb20)] at h | rw [if_pos hb] at h | rw [if_neg hb] at h | (simp only [hb, hT, reduceIte] at h) | skip
         repeat (first | (rw [iN] at h; obtain ⟨_, h⟩ := h) | (rw [iP] at h; obtain ⟨_, h⟩ := h) | (simp only [bS] at h))
         refine AWp.seq ?_
         refine W.kp [1, 3, 4, 5, 6, 8, 9, 13, 14, 18, 19, 23, 24, 25, 50] ?_
         refine AWp.region ?_
         refine L.Y Y.mv ?_
         refine L.Y Y.mv ?_
         refine L.Y Y.mv ?_
         refine L.Y Y.mv ?_
         refine L.M (M.bs Try.underlying22 Y3) ?_
         refine L.Y Y.asg ?_
         refine AList.nil ?_
         obtain rfl := Option.some.inj h
         refine AWp.ret ?_
         exact ⟨.inr rfl, [(2, _)], _, .inr ⟨by first | assumption | simp, rfl, rfl⟩, IsPart.at [] [1] base0 (H.c .nil) (E.c .nil)⟩
        ·
         have hb20 := hb
         try simp only [hS, hE, ne_eq] at hb
         first | rw [if_pos hb20] at h | rw [if_neg (Bool.eq_false_iff.1 hb20)] at h | rw [if_pos hb] at h | rw [if_neg hb] at h | (simp only [hb, hT, reduceIte] at h) | skip
         refine AWp.skip ?_
         refine W.kp [1, 3, 4, 5, 6, 8, 9, 13, 14, 18, 19, 23, 24, 25, 50] ?_
         refine AWp.region ?_
         refine L.Y Y.bin ?_
         refine L.Y Y.mv ?_
         refine AList.nil ?_
         exact ⟨k10, by omega, _, _, ⟨by omega, _, _, _, _, _, _, _, _, _, _, _, _, _, rfl, rfl, h⟩, IsPart.at [] [0] base0 (H.c .nil) (E.c (E.c (E.c (E.c (E.c (E.c (E.c (E.c (E.c (E.c (E.c (E.c .nil))))))))))))⟩
       ·
        have hb18 := hb
        try simp only [hS, hE, ne_eq] at hb
        first | rw [if_pos hb18] at h | rw [if_neg (Bool.eq_false_iff.1 hb18)] at h | rw [if_pos hb] at h | rw [if_neg hb] at h | (simp only [hb, hT, reduceIte] at h) | skip
        refine L.Gn hb18 ?_
        refine L.Gn hb18 ?_
        refine L.Gn hb18 ?_
        refine L.Gn hb18 ?_
        refine L.Gn hb18 ?_
        refine L.Y (Y.pk (c := false) hb18) ?_
        refine AList.nil ?_
        refine W.cond (fun hb => ?_) (fun hb => ?_)
        ·
         exact DD hb
        have hb21 := hb
        refine AWp.skip ?_
        refine W.kp [1, 3, 4, 5, 6, 8, 9, 13, 14, 18, 19, 23, 24, 25, 50] ?_
        refine AWp.region ?_
        refine L.Y Y.bin ?_
        refine L.Y Y.mv ?_
        refine AList.nil ?_
        exact ⟨k10, by omega, _, _, ⟨by omega, _, _, _, _, _, _, _, _, _, _, _, _, _, rfl, rfl, h⟩, IsPart.at [] [0] base0 (H.c .nil) (E.c (E.c (E.c (E.c (E.c (E.c (E.c (E.c (E.c (E.c (E.c (E.c .nil))))))))))))⟩
      ·
       have hb16 := hb
       try simp only [hS, hE, ne_eq] at hb
       first | rw [if_pos hb16] at h | rw [if_neg (Bool.eq_false_iff.1 hb16)] at h | rw [if_pos hb] at h | rw [if_neg hb] at h | (simp only [hb, hT, reduceIte] at h) | skip
       refine L.Gn hb16 ?_
       refine L.Gn hb16 ?_
       refine L.Gn hb16 ?_
       refine L.Gn hb16 ?_
       refine L.Y (Y.pk (c := false) hb16) ?_
       refine L.Y Y.mv ?_
       refine L.Gc (fun hb => ?_) (fun hb => ?_)
       ·
        exact DD hb
       have hb22 := hb
       refine L.Gn hb22 ?_
       refine L.Gn hb22 ?_
       refine L.Gn hb22 ?_
       refine L.Gn hb22 ?_
       refine L.Gn hb22 ?_
       refine L.Y (Y.pk (c := false) hb22) ?_
       refine AList.nil ?_
       refine W.cond (fun hb => ?_) (fun hb => ?_)
       ·
        exact DD hb
       have hb23 := hb
       refine AWp.skip ?_
       refine W.kp [1, 3, 4, 5, 6, 8, 9, 13, 14, 18, 19, 23, 24, 25, 50] ?_
       refine AWp.region ?_
       refine L.Y Y.bin ?_
       refine L.Y Y.mv ?_
       refine AList.nil ?_
       exact ⟨k10, by omega, _, _, ⟨by omega, _, _, _, _, _, _, _, _, _, _, _, _, _, rfl, rfl, h⟩, IsPart.at [] [0] base0 (H.c .nil) (E.c (E.c (E.c (E.c (E.c (E.c (E.c (E.c (E.c (E.c (E.c (E.c .nil))))))))))))⟩
     ·
      have hb14 := hb
      try simp only [hS, hE, ne_eq] at hb
      first | rw [if_pos hb14] at h | rw [if_neg (Bool.eq_false_iff.1 hb14)] at h | rw [if_pos hb] at h | rw [if_neg hb] at h | (simp only [hb, hT, reduceIte] at h) | skip
      refine L.Gn hb14 ?_
      refine L.Gn hb14 ?_
      refine L.Gn hb14 ?_
      refine L.Gn hb14 ?_
      refine L.Gn hb14 ?_
      refine L.Y (Y.pk (c := false) hb14) ?_
      refine L.Y Y.mv ?_
      refine L.Gc (fun hb => ?_) (fun hb => ?_)
      ·
       exact DD hb
      have hb24 := hb
      refine L.Gn hb24 ?_
      refine L.Gn hb24 ?_
      refine L.Gn hb24 ?_
      refine L.Gn hb24 ?_
      refine L.Y (Y.pk (c := false) hb24) ?_
      refine L.Y Y.mv ?_
      refine L.Gc (fun hb => ?_) (fun hb => ?_)
      ·
       exact DD hb
      have hb25 := hb
      refine L.Gn hb25 ?_
      refine L.Gn hb25 ?_
      refine L.Gn hb25 ?_
      refine L.Gn hb25 ?_
      refine L.Gn hb25 ?_
      refine L.Y (Y.pk (c := false) hb25) ?_
      refine AList.nil ?_
      refine W.cond (fun hb => ?_) (fun hb => ?_)
      ·
       exact DD hb
      have hb26 := hb
      refine AWp.skip ?_
      refine W.kp [1, 3, 4, 5, 6, 8, 9, 13, 14, 18, 19, 23, 24, 25, 50] ?_
      refine AWp.region ?_
      refine L.Y Y.bin ?_
      refine L.Y Y.mv ?_
      refine AList.nil ?_
      exact ⟨k10, by omega, _, _, ⟨by omega, _, _, _, _, _, _, _, _, _, _, _, _, _, rfl, rfl, h⟩, IsPart.at [] [0] base0 (H.c .nil) (E.c (E.c (E.c (E.c (E.c (E.c (E.c (E.c (E.c (E.c (E.c (E.c .nil))))))))))))⟩
    ·
     have hb12 := hb
     try simp only [hS, hE, ne_eq] at hb
     first | rw [if_pos hb12] at h | rw [if_neg (Bool.eq_false_iff.1 hb12)] at h | rw [if_pos hb] at h | rw [if_neg hb] at h | (simp only [hb, hT, reduceIte] at h) | skip
     refine AWp.exit ?_
     refine AWp.region ?_
     refine L.Y Y.bin ?_
     refine L.Y Y.mv ?_
     refine AList.nil ?_
     exact ⟨k10, by omega, _, _, ⟨by omega, _, _, _, _, _, _, _, _, _, _, rfl, rfl, h⟩, IsPart.at [] [0] base0 (H.c .nil) (E.c (E.c (E.c (E.c (E.c (E.c (E.c (E.c (E.c .nil)))))))))⟩
   ·
    have hb9 := hb
    try simp only [hS, hE, ne_eq] at hb
    first | rw [if_pos hb9] at h | rw [if_neg (Bool.eq_false_iff.1 hb9)] at h | rw [if_pos hb] at h | rw [if_neg hb] at h | (simp only [hb, hT, reduceIte] at h) | skip
    refine AWp.exit ?_
    refine AWp.region ?_
    refine L.Y Y.bin ?_
    refine L.Y Y.mv ?_
    refine AList.nil ?_
    exact ⟨k7, by omega, _, _, ⟨by omega, _, _, _, _, _, _, _, rfl, rfl, h⟩, IsPart.at [] [0] base0 (H.c .nil) (E.c (E.c (E.c (E.c (E.c (E.c .nil))))))⟩
  ·
   have hb6 := hb
   try simp only [hS, hE, ne_eq] at hb
   first | rw [if_pos hb6] at h | rw [if_neg (Bool.eq_false_iff.1 hb6)] at h | rw [if_pos hb] at h | rw [if_neg hb] at h | (simp only [hb, hT, reduceIte] at h) | skip
   refine AWp.exit ?_
   refine AWp.region ?_
   refine L.Y Y.bin ?_
   refine L.Y Y.mv ?_
   refine AList.nil ?_
   exact ⟨k4, by omega, _, _, ⟨by omega, _, _, _, _, rfl, rfl, h⟩, IsPart.at [] [0] base0 (H.c .nil) (E.c (E.c (E.c .nil)))⟩
 ·
  have hb3 := hb
  try simp only [hS, hE, ne_eq] at hb
  first | rw [if_pos hb3] at h | rw [if_neg (Bool.eq_false_iff.1 hb3)] at h | rw [if_pos hb] at h | rw [if_neg hb] at h | (simp only [hb, hT, reduceIte] at h) | skip
  refine AWp.exit ?_
  refine AWp.seq ?_
  refine AWp.region ?_
  refine L.Y Y.asg ?_
  refine AList.nil ?_
  obtain rfl := Option.some.inj h
  refine AWp.ret ?_
  exact ⟨.inr rfl, [(2, _)], _, .inl ⟨rfl, rfl, rfl⟩, IsPart.at [] [] base0 .nil (E.c .nil)⟩

/-! ### impl_IsBiorder: function 27 -/
def impl_IsBiorder.f (k : Nat) (a0_0 : Int) (a0_1 : Int) (l0_2 : List Int) : Option (Bool × Bool) := (impl_IsTable.f k a0_0 a0_1 l0_2).bind fun t253 => (if t253 = true then ((impl_Table_fourCells.f k a0_0 a0_1 l0_2).bind fun t254 => (if t254 = [] then (some (true, true)) else (some (false, true)))) else (some (false, false)))
set_option maxRecDepth 100000 in
set_option maxHeartbeats 20000000 in
theorem impl_IsBiorder.ac (k : Nat) (a0_0 : Int) (a0_1 : Int) (l0_2 : List Int) (r1 : Bool) (r2 : Bool) (h : impl_IsBiorder.f k a0_0 a0_1 l0_2 = some (r1, r2)) :
  ACalls Try.prog 27 [.agg [.lit (.int .i64 a0_0), .lit (.int .i64 a0_1), .row 1 l0_2.length false (ints .i64 l0_2)]] [] (fun v H' => v = .tup [.lit (.bool r1), .lit (.bool r2)] ∧ H' = []) := by
 refine ACalls.ofP [2, 3] Try.func27 rfl (by exact Nat.le_of_ble_eq_true rfl) rfl (by decide) ?_
 simp only [Try.ntmps27, env0, impl_IsBiorder.f] at h ⊢
 refine AWp.seq ?_
 refine AWp.region ?_
 refine L.M M.bx ?_
 refine L.Y Y.asg ?_
 refine L.Y Y.asg ?_
 refine AList.nil ?_
 refine AWp.seq ?_
 refine AWp.seq ?_
 refine AWp.region ?_
 refine L.S (S.ldN Try.underlying28 Y28) ?_
 obtain ⟨t253, hc1, h⟩ := Option.bind_eq_some_iff.1 h
 refine L.C (C.callE (l := true) [] Try.func52 (impl_IsTable.ac _ _ _ _ _ hc1) .nil ?_)
 refine L.Y Y.nt ?_
 refine AList.nil ?_
 refine W.cond (fun hb => ?_) (fun hb => ?_)
 ·
  have hb2 := hb
  try simp only [hS, hE, ne_eq] at hb
  first | rw [if_pos hb2] at h | rw [if_neg (Bool.eq_false_iff.1 hb2)] at h | rw [if_pos hb] at h | rw [if_neg hb] at h | (simp only [hb, hT, reduceIte] at h) | skip
  refine AWp.seq ?_
  refine AWp.region ?_
  refine L.Y Y.asg ?_
  refine L.Y Y.asg ?_
  refine AList.nil ?_
  simp only [Option.some.injEq, Prod.mk.injEq] at h
  obtain ⟨rfl, rfl⟩ := h
  refine AWp.ret ?_
  exact ⟨.inr rfl, [(2, _), (3, _)], _, ⟨rfl, rfl⟩, IsPart.at [] [] base0 .nil (E.c (E.c .nil))⟩
 ·
  have hb2 := hb
  try simp only [hS, hE, ne_eq] at hb
  first | rw [if_pos hb2] at h | rw [if_neg (Bool.eq_false_iff.1 hb2)] at h | rw [if_pos hb] at h | rw [if_neg hb] at h | (simp only [hb, hT, reduceIte] at h) | skip
  refine AWp.skip ?_
  refine AWp.seq ?_
  refine AWp.region ?_
  refine L.S (S.ldN Try.underlying28 Y28) ?_
  obtain ⟨t254, hc3, h⟩ := Option.bind_eq_some_iff.1 h
  rcases Classical.em (t254 = []) with hq | hq
  ·
   have hq0 : t254.length = 0 := by rw [hq]; rfl
   have hq1 : (ints .i64 t254) = [] := by rw [hq]; rfl
   refine L.C (C.callE (l := true) [] Try.func57 ((impl_Table_fourCells.acq _ _ _ _ _ hc3).conseq (fun _ _ q => q.elim (fun z => z.2) (fun z => absurd hq z.1))) .nil ?_)
   refine L.Y (Y.nq Try.underlying22) ?_
   refine L.Y Y.asg ?_
   refine L.Y Y.asg ?_
   refine AList.nil ?_
   rw [if_pos hq] at h
   simp only [Option.some.injEq, Prod.mk.injEq] at h
   obtain ⟨rfl, rfl⟩ := h
   refine AWp.ret ?_
   exact ⟨.inr rfl, [(2, _), (3, _)], _, ⟨rfl, rfl⟩, IsPart.at [] [] base0 .nil (E.c (E.c .nil))⟩
  ·
   skip
   refine L.C (C.callE (l := true) [] Try.func57 ((impl_Table_fourCells.acq _ _ _ _ _ hc3).conseq (fun _ _ q => q.elim (fun z => absurd z.1 hq) (fun z => z.2))) .nil ?_)
   refine L.Y (Y.nq Try.underlying22) ?_
   refine L.Y Y.asg ?_
   refine L.Y Y.asg ?_
   refine AList.nil ?_
   rw [if_neg hq] at h
   simp only [Option.some.injEq, Prod.mk.injEq] at h
   obtain ⟨rfl, rfl⟩ := h
   refine AWp.ret ?_
   exact ⟨.inr rfl, [(2, _), (3, _)], _, ⟨rfl, rfl⟩, IsPart.at [] [] base0 .nil (E.c (E.c .nil))⟩

/-! ### impl_table: function 58 -/
mutual
def impl_table.l0 : Nat → Int → (Int → Int → Option Bool) → Int → Int → Int → Int → List Int → Option (Int × Int × List Int)
 | 0, _, _, _, _, _, _, _ => none
 | k + 1, x1, x2, x15, x16, x262000, x262001, x262002 => if x16 < x15 then (impl_table.l1 k x1 x2 x16 x15 x16 x1 0 x262000 x262001 x262002) else (some (x262000, x262001, x262002))
def impl_table.l1 : Nat → Int → (Int → Int → Option Bool) → Int → Int → Int → Int → Int → Int → Int → List Int → Option (Int × Int × List Int)
 | 0, _, _, _, _, _, _, _, _, _, _ => none
 | k + 1, x1, x2, x8, x15, x16, x19, x20, x262000, x262001, x262002 => if x20 < x19 then ((x2 x8 x20).bind fun t262 => (if t262 = true then (if 0 ≤ x8 then (if x8 < (x262002.length : Int) then (if 0 ≤ x20 then (impl_table.l1 k x1 x2 x8 x15 x16 x19 (wrap64 (x20 + 1)) x262000 x262001 (x262002.set (x8 : Int).toNat (Go.bits .or .i64 (rd x262002 x8) (shl .i64 1 x20)))) else (none)) else (none)) else (none)) else (impl_table.l1 k x1 x2 x8 x15 x16 x19 (wrap64 (x20 + 1)) x262000 x262001 x262002))) else (impl_table.l0 k x1 x2 x15 (wrap64 (x16 + 1)) x262000 x262001 x262002)
end
def impl_table.f (k : Nat) (a0 : Int) (a1 : Int) (a2 : (Int → Int → Option Bool)) : Option (Int × Int × List Int) := if 0 ≤ a0 then (if (a0 : Int).toNat ≤ 35184372088832 then (impl_table.l0 k a1 a2 a0 0 a0 a1 (List.replicate (a0 : Int).toNat 0)) else (none)) else (none)
set_option maxRecDepth 100000 in
set_option maxHeartbeats 20000000 in
theorem impl_table.ac (k : Nat) (a0 : Int) (a1 : Int) (a2 : Int → Int → Option Bool) (r1 : Int) (r2 : Int) (r3 : List Int) (h : impl_table.f k a0 a1 a2 = some (r1, r2, r3)) (F2 : FuncId) (cs2 : List AV) (hF2 : FnOk Try.prog F2) (hnf2 : noids cs2 = true) (hcf2 : ∀ x_ y_ r_, a2 x_ y_ = some r_ → ACalls Try.prog F2 (.lit (.int .i64 x_) :: .lit (.int .i64 y_) :: cs2) [] (fun v H' => v = .lit (.bool r_) ∧ H' = [])) :
  ACalls Try.prog 58 [.lit (.int .i64 a0), .lit (.int .i64 a1), .fn F2 cs2] [] (fun v H' => v = .agg [.lit (.int .i64 r1), .lit (.int .i64 r2), .own 0 r3.length] ∧ H' = [.sl 3 1 r3.length false (ints .i64 r3)]) := by
 obtain ⟨fn2, hff2, hnm2, hbd2⟩ := id hF2
 refine ACalls.ofV Try.func58 rfl (by exact Nat.le_of_ble_eq_true rfl) ?_
 simp only [Try.ntmps58, env0, impl_table.f] at h ⊢
 repeat (first | (rw [iN] at h; obtain ⟨_, h⟩ := h) | (rw [iP] at h; obtain ⟨_, h⟩ := h) | (simp only [bS] at h))
 refine AWp.seq ?_
 refine AWp.region ?_
 refine L.M (M.al Y28) ?_
 refine AList.nil ?_
 refine AWp.seq ?_
 refine AWp.region ?_
 refine L.Y Y.mv ?_
 refine L.Y Y.mv ?_
 refine L.Y Y.mv ?_
 refine L.M (M.mk Try.underlying22 Y3) ?_
 refine L.Y (Y.bd Try.underlying28 Y28 P28) ?_
 refine L.M (M.al Y28) ?_
 refine L.S (S.stb Y28) ?_
 refine AList.nil ?_
 refine AWp.seq ?_
 refine AWp.seq ?_
 refine W.kp [0, 1, 2, 6, 7] ?_
 refine AWp.region ?_
 refine L.Y Y.mv ?_
 refine L.Y Y.mv ?_
 refine AList.nil ?_
 refine AWp.block ?_
 refine AWp.loopI (fun kk e H => kk ≤ k ∧ ∃ (x1 : Int) (x15 : Int) (x16 : Int) (x258000 : Int) (x258001 : Int) (x262000 : Int) (x262001 : Int) (x262002 : List Int), e = [(1, .lit (.int .i64 x1)), (2, .fn F2 cs2), (6, .ptr 0 0), (7, .ptr 1 0), (15, .lit (.int .i64 x15)), (16, .lit (.int .i64 x16))] ∧ H = [.bx 28 [.lit (.int .i64 x258000), .lit (.int .i64 x258001), .lit (.slice none 0 0)], .bx 28 [.lit (.int .i64 x262000), .lit (.int .i64 x262001), .own 2 x262002.length], .sl 3 1 x262002.length true (ints .i64 x262002)] ∧ impl_table.l0 kk x1 a2 x15 x16 x262000 x262001 x262002 = some (r1, r2, r3)) (k := k)
  ⟨_, _, ⟨Nat.le_refl _, _, _, _, _, _, _, _, _, rfl, rfl, h⟩, IsPart.at [] [0, 2, 1] base0 (H.c (H.c (H.c .nil))) (E.c (E.c (E.c (E.c (E.c (E.c .nil))))))⟩ ?_
 clear h
 rintro k1 e H ⟨hk2, x1, x15, x16, x258000, x258001, x262000, x262001, x262002, rfl, rfl, h⟩
 cases k1 with
 | zero => exact absurd h (by simp [impl_table.l0])
 | succ k1 =>
 simp only [impl_table.l0] at h
 refine AWp.seq ?_
 refine AWp.region ?_
 refine L.Y Y.bin ?_
 refine AList.nil ?_
 refine AWp.seq ?_
 refine W.cond (fun hb => ?_) (fun hb => ?_)
 ·
  have hb3 := hb
  try simp only [hS, hE, ne_eq] at hb
  first | rw [if_pos hb3] at h | rw [if_neg (Bool.eq_false_iff.1 hb3)] at h | rw [if_pos hb] at h | rw [if_neg hb] at h | (simp only [hb, hT, reduceIte] at h) | skip
  refine AWp.skip ?_
  refine AWp.seq ?_
  refine AWp.block ?_
  refine AWp.seq ?_
  refine AWp.region ?_
  refine L.Y Y.mv ?_
  refine L.Y Y.asg ?_
  refine AList.nil ?_
  refine AWp.seq ?_
  refine AWp.region ?_
  refine L.Y Y.mv ?_
  refine L.Y Y.mv ?_
  refine AList.nil ?_
  refine AWp.block ?_
  refine AWp.loopI (fun kk e H => kk ≤ k1 ∧ ∃ (x1 : Int) (x8 : Int) (x15 : Int) (x16 : Int) (x19 : Int) (x20 : Int) (x258000 : Int) (x258001 : Int) (x262000 : Int) (x262001 : Int) (x262002 : List Int), e = [(1, .lit (.int .i64 x1)), (2, .fn F2 cs2), (6, .ptr 0 0), (7, .ptr 1 0), (8, .lit (.int .i64 x8)), (15, .lit (.int .i64 x15)), (16, .lit (.int .i64 x16)), (19, .lit (.int .i64 x19)), (20, .lit (.int .i64 x20))] ∧ H = [.bx 28 [.lit (.int .i64 x258000), .lit (.int .i64 x258001), .lit (.slice none 0 0)], .bx 28 [.lit (.int .i64 x262000), .lit (.int .i64 x262001), .own 2 x262002.length], .sl 3 1 x262002.length true (ints .i64 x262002)] ∧ impl_table.l1 kk x1 a2 x8 x15 x16 x19 x20 x262000 x262001 x262002 = some (r1, r2, r3)) (k := k1)
   ⟨_, _, ⟨Nat.le_refl _, _, _, _, _, _, _, _, _, _, _, _, rfl, rfl, h⟩, IsPart.at [] [0, 1, 2] base0 (H.c (H.c (H.c .nil))) (E.c (E.c (E.c (E.c (E.c (E.c (E.c (E.c (E.c .nil)))))))))⟩ ?_
  clear h
  rintro k4 e H ⟨hk5, x1, x8, x15, x16, x19, x20, x258000, x258001, x262000, x262001, x262002, rfl, rfl, h⟩
  cases k4 with
  | zero => exact absurd h (by simp [impl_table.l1])
  | succ k4 =>
  simp only [impl_table.l1] at h
  refine AWp.seq ?_
  refine AWp.region ?_
  refine L.Y Y.bin ?_
  refine AList.nil ?_
  refine AWp.seq ?_
  refine W.cond (fun hb => ?_) (fun hb => ?_)
  ·
   have hb6 := hb
   try simp only [hS, hE, ne_eq] at hb
   first | rw [if_pos hb6] at h | rw [if_neg (Bool.eq_false_iff.1 hb6)] at h | rw [if_pos hb] at h | rw [if_neg hb] at h | (simp only [hb, hT, reduceIte] at h) | skip
   refine AWp.skip ?_
   refine AWp.seq ?_
   refine AWp.block ?_
   refine AWp.seq ?_
   refine AWp.region ?_
   refine L.Y Y.mv ?_
   refine L.Y Y.asg ?_
   refine AList.nil ?_
   refine AWp.seq ?_
   refine AWp.region ?_
   refine L.Y Y.mv ?_
   refine L.Y Y.mv ?_
   refine L.Y Y.mv ?_
   obtain ⟨t262, hc7, h⟩ := Option.bind_eq_some_iff.1 h
   refine L.C (C.callE (l := true) [] hff2 (hcf2 _ _ _ hc7) .nil ?_ (hname := hnm2) (hb := hbd2))
   refine AList.nil ?_
   refine W.cond (fun hb => ?_) (fun hb => ?_)
   ·
    have hb8 := hb
    try simp only [hS, hE, ne_eq] at hb
    first | rw [if_pos hb8] at h | rw [if_neg (Bool.eq_false_iff.1 hb8)] at h | rw [if_pos hb] at h | rw [if_neg hb] at h | (simp only [hb, hT, reduceIte] at h) | skip
    repeat (first | (rw [iN] at h; obtain ⟨_, h⟩ := h) | (rw [iP] at h; obtain ⟨_, h⟩ := h) | (simp only [bS] at h))
    refine W.kp [1, 2, 6, 7, 8, 9, 15, 16, 19, 20, 21, 26] ?_
    refine Dt.reg [] [9] (.y 0 (.t 1 (.y 2 (.y 3 (.t 4 (.y 5 (.y 6 (.y 7 (.y 8 (.last 9 .done)))))))))) HM ?_
    refine Dt.Y rfl wantN (Y.fa (off := 2) Try.underlying28 Y22) ?_
    refine Dt.T rfl wantN (D.ld Try.underlying22) ?_
    refine Dt.Y rfl wantN Y.mv ?_
    refine Dt.Y rfl wantN (Y.ixo Try.underlying22 Y3) ?_
    refine Dt.T rfl wantN (D.ld Try.underlying3) ?_
    refine Dt.Y rfl wantN Y.mv ?_
    refine Dt.Y rfl wantN Y.bin ?_
    refine Dt.Y rfl wantN Y.bin ?_
    refine Dt.Y rfl wantN (Y.ixo Try.underlying22 Y3) ?_
    refine Dt.L rfl wantN ?_
    refine Op.S (S.sts Y3) ?_
    refine Du.nil ?_
    refine W.kp [1, 2, 6, 7, 8, 9, 15, 16, 19, 20, 21, 26] ?_
    refine AWp.region ?_
    refine L.Y Y.bin ?_
    refine L.Y Y.mv ?_
    refine AList.nil ?_
    exact ⟨k4, by omega, _, _, ⟨by omega, _, _, _, _, _, _, _, _, _, _, _, rfl, rfl, h⟩, IsPart.at [] [0, 1, 2] base0 (H.c (H.c (H.c .nil))) (E.c (E.c (E.c (E.c (E.c (E.c (E.c (E.c (E.c .nil)))))))))⟩
   ·
    have hb8 := hb
    try simp only [hS, hE, ne_eq] at hb
    first | rw [if_pos hb8] at h | rw [if_neg (Bool.eq_false_iff.1 hb8)] at h | rw [if_pos hb] at h | rw [if_neg hb] at h | (simp only [hb, hT, reduceIte] at h) | skip
    refine AWp.skip ?_
    refine W.kp [1, 2, 6, 7, 8, 9, 15, 16, 19, 20, 21, 26] ?_
    refine AWp.region ?_
    refine L.Y Y.bin ?_
    refine L.Y Y.mv ?_
    refine AList.nil ?_
    exact ⟨k4, by omega, _, _, ⟨by omega, _, _, _, _, _, _, _, _, _, _, _, rfl, rfl, h⟩, IsPart.at [] [0, 1, 2] base0 (H.c (H.c (H.c .nil))) (E.c (E.c (E.c (E.c (E.c (E.c (E.c (E.c (E.c .nil)))))))))⟩
  ·
   have hb6 := hb
   try simp only [hS, hE, ne_eq] at hb
   first | rw [if_pos hb6] at h | rw [if_neg (Bool.eq_false_iff.1 hb6)] at h | rw [if_pos hb] at h | rw [if_neg hb] at h | (simp only [hb, hT, reduceIte] at h) | skip
   refine AWp.exit ?_
   refine AWp.region ?_
   refine L.Y Y.bin ?_
   refine L.Y Y.mv ?_
   refine AList.nil ?_
   exact ⟨k4, by omega, _, _, ⟨by omega, _, _, _, _, _, _, _, _, rfl, rfl, h⟩, IsPart.at [] [0, 1, 2] base0 (H.c (H.c (H.c .nil))) (E.c (E.c (E.c (E.c (E.c (E.c .nil))))))⟩
 ·
  have hb3 := hb
  try simp only [hS, hE, ne_eq] at hb
  first | rw [if_pos hb3] at h | rw [if_neg (Bool.eq_false_iff.1 hb3)] at h | rw [if_pos hb] at h | rw [if_neg hb] at h | (simp only [hb, hT, reduceIte] at h) | skip
  refine AWp.exit ?_
  refine AWp.seq ?_
  refine AWp.region ?_
  refine L.S (S.ldN Try.underlying28 Y28) ?_
  refine L.S (S.stb Y28) ?_
  refine AList.nil ?_
  simp only [Option.some.injEq, Prod.mk.injEq] at h
  obtain ⟨rfl, rfl, rfl⟩ := h
  refine AWp.ret ?_
  exact ⟨.inr rfl, _, _, _, Res.cl Try.underlying28 Y28, ⟨rfl, rfl⟩, PartV.at [] [2] base0 (H.c .nil)⟩

/-! ### impl_MeetTables_1: function 59 -/
def impl_MeetTables_1.f (a0 : Int) (a1 : Int) (a2_0 : Int) (a2_1 : Int) (l2_2 : List Int) (a3_0 : Int) (a3_1 : Int) (l3_2 : List Int) : Option (Bool) := (impl_Table_marked.f a2_0 a2_1 l2_2 a0 a1).bind fun t265 => (if t265 = true then ((impl_Table_marked.f a3_0 a3_1 l3_2 a0 a1).bind fun t266 => (some t266)) else (some false))
set_option maxRecDepth 100000 in
set_option maxHeartbeats 20000000 in
theorem impl_MeetTables_1.ac (a0 : Int) (a1 : Int) (a2_0 : Int) (a2_1 : Int) (l2_2 : List Int) (a3_0 : Int) (a3_1 : Int) (l3_2 : List Int) (r : Bool) (h : impl_MeetTables_1.f a0 a1 a2_0 a2_1 l2_2 a3_0 a3_1 l3_2 = some r) :
  ACalls Try.prog 59 [.lit (.int .i64 a0), .lit (.int .i64 a1), .rptr [.lit (.int .i64 a2_0), .lit (.int .i64 a2_1), .row 1 l2_2.length false (ints .i64 l2_2)], .rptr [.lit (.int .i64 a3_0), .lit (.int .i64 a3_1), .row 1 l3_2.length false (ints .i64 l3_2)]] [] (fun v H' => v = .lit (.bool r) ∧ H' = []) := by
 refine ACalls.ofP [6] Try.func59 rfl (by exact Nat.le_of_ble_eq_true rfl) rfl (by decide) ?_
 simp only [Try.ntmps59, env0, impl_MeetTables_1.f] at h ⊢
 refine AWp.seq ?_
 refine AWp.region ?_
 refine L.Y Y.asg ?_
 refine AList.nil ?_
 refine AWp.seq ?_
 refine AWp.region ?_
 refine L.S (S.ldN Try.underlying28 Y28) ?_
 refine L.Y Y.mv ?_
 refine L.Y Y.mv ?_
 obtain ⟨t265, hc1, h⟩ := Option.bind_eq_some_iff.1 h
 refine L.C (C.callE (l := true) [] Try.func60 (impl_Table_marked.ac _ _ _ _ _ _ hc1) .nil ?_)
 refine L.Y Y.mv ?_
 refine L.Gc (fun hb => ?_) (fun hb => ?_)
 ·
  have hb2 := hb
  try simp only [hS, hE, ne_eq] at hb
  first | rw [if_pos hb2] at h | rw [if_neg (Bool.eq_false_iff.1 hb2)] at h | rw [if_pos hb] at h | rw [if_neg hb] at h | (simp only [hb, hT, reduceIte] at h) | skip
  refine L.Gs hb2 (S.ldN Try.underlying28 Y28) ?_
  refine L.Gy hb2 Y.mv ?_
  refine L.Gy hb2 Y.mv ?_
  obtain ⟨t266, hc3, h⟩ := Option.bind_eq_some_iff.1 h
  refine L.GC hb2 (C.callE (l := true) [] Try.func60 (impl_Table_marked.ac _ _ _ _ _ _ hc3) .nil ?_)
  refine L.Y (Y.pk (c := true) hb2) ?_
  refine L.Y Y.asg ?_
  refine AList.nil ?_
  obtain rfl := Option.some.inj h
  refine AWp.ret ?_
  exact ⟨.inr rfl, [(6, _)], _, ⟨rfl, rfl⟩, IsPart.at [] [] base0 .nil (E.c .nil)⟩
 ·
  have hb2 := hb
  try simp only [hS, hE, ne_eq] at hb
  first | rw [if_pos hb2] at h | rw [if_neg (Bool.eq_false_iff.1 hb2)] at h | rw [if_pos hb] at h | rw [if_neg hb] at h | (simp only [hb, hT, reduceIte] at h) | skip
  refine L.Gn hb2 ?_
  refine L.Gn hb2 ?_
  refine L.Gn hb2 ?_
  refine L.Gn hb2 ?_
  refine L.Y (Y.pk (c := false) hb2) ?_
  refine L.Y Y.asg ?_
  refine AList.nil ?_
  obtain rfl := Option.some.inj h
  refine AWp.ret ?_
  exact ⟨.inr rfl, [(6, _)], _, ⟨rfl, rfl⟩, IsPart.at [] [] base0 .nil (E.c .nil)⟩

end Go.Proofs.Ytpippjgphndjmaa.PFnMeetsOfBiorders
