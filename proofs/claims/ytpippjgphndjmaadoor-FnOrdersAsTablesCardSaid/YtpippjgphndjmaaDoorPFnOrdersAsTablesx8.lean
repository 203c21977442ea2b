-- Written by a program of this session's (wip/myprint2): the functions by the kit's print, the walks by awgen.py. Lean checks it.
import Derived.Test.YtpippjgphndjmaaDoorPFnOrdersAsTablesx0
import Derived.Test.YtpippjgphndjmaaDoorPFnOrdersAsTablesx7
namespace Go.Proofs.YtpippjgphndjmaaDoor.PFnOrdersAsTables
open Go.RowKit Go.Proofs.YtpippjgphndjmaaDoorW.PrintWords Go.Proofs.YtpippjgphndjmaaDoorW.PrintLast Go.Proofs.YtpippjgphndjmaaDoorW.PrintMore Go.Proofs.YtpippjgphndjmaaDoorM Go.Proofs.YtpippjgphndjmaaDoorA Go.Proofs.YtpippjgphndjmaaDoorT
attribute [local go_sem] max2_int min2_int max_two min_two max_three min_three max_four min_four   -- for this text's walks alone
set_option linter.unusedVariables false
set_option linter.unusedSimpArgs false

/-! ### impl_Table_fourCells: function 100 -/
mutual
def impl_Table_fourCells.l0 : Nat → Int → Int → Int → Int → List Int → Option (List Int)
 | 0, _, _, _, _, _ => none
 | k + 1, x8, x9, x384000, x384001, x384002 => if x9 < x8 then (impl_Table_fourCells.l1 k x9 x8 x9 x384001 0 x384000 x384001 x384002) else (some ([] : List Int))
def impl_Table_fourCells.l1 : Nat → Int → Int → Int → Int → Int → Int → Int → List Int → Option (List Int)
 | 0, _, _, _, _, _, _, _, _ => none
 | k + 1, x3, x8, x9, x13, x14, x384000, x384001, x384002 => if x14 < x13 then (impl_Table_fourCells.l2 k x3 x14 x8 x9 x13 x14 x384000 0 x384000 x384001 x384002) else (impl_Table_fourCells.l0 k x8 (wrap64 (x9 + 1)) x384000 x384001 x384002)
def impl_Table_fourCells.l2 : Nat → Int → Int → Int → Int → Int → Int → Int → Int → Int → Int → List Int → Option (List Int)
 | 0, _, _, _, _, _, _, _, _, _, _, _ => none
 | k + 1, x3, x4, x8, x9, x13, x14, x18, x19, x384000, x384001, x384002 => if x19 < x18 then (impl_Table_fourCells.l3 k x3 x4 x19 x8 x9 x13 x14 x18 x19 x384001 0 x384000 x384001 x384002) else (impl_Table_fourCells.l1 k x3 x8 x9 x13 (wrap64 (x14 + 1)) x384000 x384001 x384002)
def impl_Table_fourCells.l3 : Nat → Int → Int → Int → Int → Int → Int → Int → Int → Int → Int → Int → Int → Int → List Int → Option (List Int)
 | 0, _, _, _, _, _, _, _, _, _, _, _, _, _, _ => none
 | k + 1, x3, x4, x5, x8, x9, x13, x14, x18, x19, x23, x24, x384000, x384001, x384002 => if x24 < x23 then ((impl_Table_marked.f x384000 x384001 x384002 x3 x4).bind fun t384 => (if t384 = true then ((impl_Table_marked.f x384000 x384001 x384002 x3 x24).bind fun t385 => (if t385 = true then (impl_Table_fourCells.l3 k x3 x4 x5 x8 x9 x13 x14 x18 x19 x23 (wrap64 (x24 + 1)) x384000 x384001 x384002) else ((impl_Table_marked.f x384000 x384001 x384002 x5 x24).bind fun t386 => (if t386 = true then ((impl_Table_marked.f x384000 x384001 x384002 x5 x4).bind fun t387 => (if t387 = true then (impl_Table_fourCells.l3 k x3 x4 x5 x8 x9 x13 x14 x18 x19 x23 (wrap64 (x24 + 1)) x384000 x384001 x384002) else ((some (([x3, x4, x5, x24] : List Int) : List Int)).bind fun y388 => (if y388 = [] then (none) else (some y388))))) else (impl_Table_fourCells.l3 k x3 x4 x5 x8 x9 x13 x14 x18 x19 x23 (wrap64 (x24 + 1)) x384000 x384001 x384002))))) else (impl_Table_fourCells.l3 k x3 x4 x5 x8 x9 x13 x14 x18 x19 x23 (wrap64 (x24 + 1)) x384000 x384001 x384002))) else (impl_Table_fourCells.l2 k x3 x4 x8 x9 x13 x14 x18 (wrap64 (x19 + 1)) x384000 x384001 x384002)
end
def impl_Table_fourCells.f (k : Nat) (a0_0 : Int) (a0_1 : Int) (l0_2 : List Int) : Option (List Int) := impl_Table_fourCells.l0 k a0_0 0 a0_0 a0_1 l0_2
set_option maxRecDepth 100000 in
set_option maxHeartbeats 20000000 in
theorem impl_Table_fourCells.acq (k : Nat) (a0_0 : Int) (a0_1 : Int) (l0_2 : List Int) (r : List Int) (h : impl_Table_fourCells.f k a0_0 a0_1 l0_2 = some r) :
  ACalls Tryd.prog 100 [.agg [.lit (.int .i64 a0_0), .lit (.int .i64 a0_1), .row 1 l0_2.length false (ints .i64 l0_2)]] [] (fun v H' => (r = [] ∧ v = .lit (.slice none 0 0) ∧ H' = []) ∨ (r ≠ [] ∧ v = .own 0 r.length ∧ H' = [.sl 3 1 r.length true (ints .i64 r)])) := by
 refine ACalls.ofP [2] Tryd.func100 rfl (by exact Nat.le_of_ble_eq_true rfl) rfl (by decide) ?_
 simp only [Tryd.ntmps100, env0, impl_Table_fourCells.f] at h ⊢
 refine AWp.seq ?_
 refine AWp.region ?_
 refine L.M M.bx ?_
 refine L.Y Y.asg ?_
 refine AList.nil ?_
 refine AWp.seq ?_
 refine AWp.seq ?_
 refine AWp.region ?_
 refine L.Y (Y.fa (off := 0) Tryd.underlying27 Y3) ?_
 refine L.S (S.ld Tryd.underlying3) ?_
 refine L.Y Y.mv ?_
 refine AList.nil ?_
 refine AWp.block ?_
 refine AWp.loopI (fun kk e H => kk ≤ k ∧ ∃ (x8 : Int) (x9 : Int) (x384000 : Int) (x384001 : Int), e = [(1, .ptr 0 0), (8, .lit (.int .i64 x8)), (9, .lit (.int .i64 x9))] ∧ H = [.bx 27 [.lit (.int .i64 x384000), .lit (.int .i64 x384001), .row 1 l0_2.length false (ints .i64 l0_2)]] ∧ impl_Table_fourCells.l0 kk x8 x9 x384000 x384001 l0_2 = some r) (k := k)
  ⟨_, _, ⟨Nat.le_refl _, _, _, _, _, rfl, rfl, h⟩, IsPart.at [] [0] base0 (H.c .nil) (E.c (E.c (E.c .nil)))⟩ ?_
 clear h
 rintro k1 e H ⟨hk2, x8, x9, x384000, x384001, rfl, rfl, h⟩
 cases k1 with
 | zero => exact absurd h (by simp [impl_Table_fourCells.l0])
 | succ k1 =>
 simp only [impl_Table_fourCells.l0] at h
 refine AWp.seq ?_
 refine AWp.region ?_
 refine L.Y Y.bin ?_
 refine AList.nil ?_
 refine AWp.seq ?_
 refine W.cond (fun hb => ?_) (fun hb => ?_)
 ·
  have hb3 := hb
  try simp only [hS, hE, ne_eq] at hb
  first | rw [if_pos hb3] at h | rw [if_neg (Bool.eq_false_iff.1 hb3)] at h | rw [if_pos hb] at h | rw [if_neg hb] at h | (simp only [hb, hT, reduceIte] at h) | skip
  refine AWp.skip ?_
  refine AWp.seq ?_
  refine AWp.block ?_
  refine AWp.seq ?_
  refine AWp.region ?_
  refine L.Y Y.mv ?_
  refine L.Y Y.asg ?_
  refine AList.nil ?_
  refine AWp.seq ?_
  refine AWp.region ?_
  refine L.Y (Y.fa (off := 1) Tryd.underlying27 Y3) ?_
  refine L.S (S.ld Tryd.underlying3) ?_
  refine L.Y Y.mv ?_
  refine AList.nil ?_
  refine AWp.block ?_
  refine AWp.loopI (fun kk e H => kk ≤ k1 ∧ ∃ (x3 : Int) (x8 : Int) (x9 : Int) (x13 : Int) (x14 : Int) (x384000 : Int) (x384001 : Int), e = [(1, .ptr 0 0), (3, .lit (.int .i64 x3)), (8, .lit (.int .i64 x8)), (9, .lit (.int .i64 x9)), (13, .lit (.int .i64 x13)), (14, .lit (.int .i64 x14))] ∧ H = [.bx 27 [.lit (.int .i64 x384000), .lit (.int .i64 x384001), .row 1 l0_2.length false (ints .i64 l0_2)]] ∧ impl_Table_fourCells.l1 kk x3 x8 x9 x13 x14 x384000 x384001 l0_2 = some r) (k := k1)
   ⟨_, _, ⟨Nat.le_refl _, _, _, _, _, _, _, _, rfl, rfl, h⟩, IsPart.at [] [0] base0 (H.c .nil) (E.c (E.c (E.c (E.c (E.c (E.c .nil))))))⟩ ?_
  clear h
  rintro k4 e H ⟨hk5, x3, x8, x9, x13, x14, x384000, x384001, rfl, rfl, h⟩
  cases k4 with
  | zero => exact absurd h (by simp [impl_Table_fourCells.l1])
  | succ k4 =>
  simp only [impl_Table_fourCells.l1] at h
  refine AWp.seq ?_
  refine AWp.region ?_
  refine L.Y Y.bin ?_
  refine AList.nil ?_
  refine AWp.seq ?_
  refine W.cond (fun hb => ?_) (fun hb => ?_)
  ·
   have hb6 := hb
   try simp only [hS, hE, ne_eq] at hb
   first | rw [if_pos hb6] at h | rw [if_neg (Bool.eq_false_iff.1 hb6)] at h | rw [if_pos hb] at h | rw [if_neg hb] at h | (simp only [hb, hT, reduceIte] at h) | skip
   refine AWp.skip ?_
   refine AWp.seq ?_
   refine AWp.block ?_
   refine AWp.seq ?_
   refine AWp.region ?_
   refine L.Y Y.mv ?_
   refine L.Y Y.asg ?_
   refine AList.nil ?_
   refine AWp.seq ?_
   refine AWp.region ?_
   refine L.Y (Y.fa (off := 0) Tryd.underlying27 Y3) ?_
   refine L.S (S.ld Tryd.underlying3) ?_
   refine L.Y Y.mv ?_
   refine AList.nil ?_
   refine AWp.block ?_
   refine AWp.loopI (fun kk e H => kk ≤ k4 ∧ ∃ (x3 : Int) (x4 : Int) (x8 : Int) (x9 : Int) (x13 : Int) (x14 : Int) (x18 : Int) (x19 : Int) (x384000 : Int) (x384001 : Int), e = [(1, .ptr 0 0), (3, .lit (.int .i64 x3)), (4, .lit (.int .i64 x4)), (8, .lit (.int .i64 x8)), (9, .lit (.int .i64 x9)), (13, .lit (.int .i64 x13)), (14, .lit (.int .i64 x14)), (18, .lit (.int .i64 x18)), (19, .lit (.int .i64 x19))] ∧ H = [.bx 27 [.lit (.int .i64 x384000), .lit (.int .i64 x384001), .row 1 l0_2.length false (ints .i64 l0_2)]] ∧ impl_Table_fourCells.l2 kk x3 x4 x8 x9 x13 x14 x18 x19 x384000 x384001 l0_2 = some r) (k := k4)
    ⟨_, _, ⟨Nat.le_refl _, _, _, _, _, _, _, _, _, _, _, rfl, rfl, h⟩, IsPart.at [] [0] base0 (H.c .nil) (E.c (E.c (E.c (E.c (E.c (E.c (E.c (E.c (E.c .nil)))))))))⟩ ?_
   clear h
   rintro k7 e H ⟨hk8, x3, x4, x8, x9, x13, x14, x18, x19, x384000, x384001, rfl, rfl, h⟩
   cases k7 with
   | zero => exact absurd h (by simp [impl_Table_fourCells.l2])
   | succ k7 =>
   simp only [impl_Table_fourCells.l2] at h
   refine AWp.seq ?_
   refine AWp.region ?_
   refine L.Y Y.bin ?_
   refine AList.nil ?_
   refine AWp.seq ?_
   refine W.cond (fun hb => ?_) (fun hb => ?_)
   ·
    have hb9 := hb
    try simp only [hS, hE, ne_eq] at hb
    first | rw [if_pos hb9] at h | rw [if_neg (Bool.eq_false_iff.1 hb9)] at h | rw [if_pos hb] at h | rw [if_neg hb] at h | (simp only [hb, hT, reduceIte] at h) | skip
    refine AWp.skip ?_
    refine AWp.seq ?_
    refine AWp.block ?_
    refine AWp.seq ?_
    refine AWp.region ?_
    refine L.Y Y.mv ?_
    refine L.Y Y.asg ?_
    refine AList.nil ?_
    refine AWp.seq ?_
    refine AWp.region ?_
    refine L.Y (Y.fa (off := 1) Tryd.underlying27 Y3) ?_
    refine L.S (S.ld Tryd.underlying3) ?_
    refine L.Y Y.mv ?_
    refine AList.nil ?_
    refine AWp.block ?_
    refine AWp.loopI (fun kk e H => kk ≤ k7 ∧ ∃ (x3 : Int) (x4 : Int) (x5 : Int) (x8 : Int) (x9 : Int) (x13 : Int) (x14 : Int) (x18 : Int) (x19 : Int) (x23 : Int) (x24 : Int) (x384000 : Int) (x384001 : Int), e = [(1, .ptr 0 0), (3, .lit (.int .i64 x3)), (4, .lit (.int .i64 x4)), (5, .lit (.int .i64 x5)), (8, .lit (.int .i64 x8)), (9, .lit (.int .i64 x9)), (13, .lit (.int .i64 x13)), (14, .lit (.int .i64 x14)), (18, .lit (.int .i64 x18)), (19, .lit (.int .i64 x19)), (23, .lit (.int .i64 x23)), (24, .lit (.int .i64 x24))] ∧ H = [.bx 27 [.lit (.int .i64 x384000), .lit (.int .i64 x384001), .row 1 l0_2.length false (ints .i64 l0_2)]] ∧ impl_Table_fourCells.l3 kk x3 x4 x5 x8 x9 x13 x14 x18 x19 x23 x24 x384000 x384001 l0_2 = some r) (k := k7)
     ⟨_, _, ⟨Nat.le_refl _, _, _, _, _, _, _, _, _, _, _, _, _, _, rfl, rfl, h⟩, IsPart.at [] [0] base0 (H.c .nil) (E.c (E.c (E.c (E.c (E.c (E.c (E.c (E.c (E.c (E.c (E.c (E.c .nil))))))))))))⟩ ?_
    clear h
    rintro k10 e H ⟨hk11, x3, x4, x5, x8, x9, x13, x14, x18, x19, x23, x24, x384000, x384001, rfl, rfl, h⟩
    cases k10 with
    | zero => exact absurd h (by simp [impl_Table_fourCells.l3])
    | succ k10 =>
    simp only [impl_Table_fourCells.l3] at h
    refine AWp.seq ?_
    refine AWp.region ?_
    refine L.Y Y.bin ?_
    refine AList.nil ?_
    refine AWp.seq ?_
    refine W.cond (fun hb => ?_) (fun hb => ?_)
    ·
     have hb12 := hb
     try simp only [hS, hE, ne_eq] at hb
     first | rw [if_pos hb12] at h | rw [if_neg (Bool.eq_false_iff.1 hb12)] at h | rw [if_pos hb] at h | rw [if_neg hb] at h | (simp only [hb, hT, reduceIte] at h) | skip
     refine AWp.skip ?_
     refine AWp.seq ?_
     refine AWp.block ?_
     refine AWp.seq ?_
     refine AWp.region ?_
     refine L.Y Y.mv ?_
     refine L.Y Y.asg ?_
     refine AList.nil ?_
     refine AWp.seq ?_
     refine AWp.region ?_
     refine L.S (S.ldN Tryd.underlying27 Y27) ?_
     refine L.Y Y.mv ?_
     refine L.Y Y.mv ?_
     replace h := Option.bind_eq_some_iff.1 h
     obtain ⟨t384, hc13, h⟩ := h
     refine L.C (C.callE (l := true) [] Tryd.func135 (impl_Table_marked.ac _ _ _ _ _ _ hc13) .nil ?_)
     refine L.Y Y.mv ?_
     refine L.Gc (fun hb => ?_) (fun hb => ?_)
     ·
      have hb14 := hb
      try simp only [hS, hE, ne_eq] at hb
      first | rw [if_pos hb14] at h | rw [if_neg (Bool.eq_false_iff.1 hb14)] at h | rw [if_pos hb] at h | rw [if_neg hb] at h | (simp only [hb, hT, reduceIte] at h) | skip
      refine L.Gs hb14 (S.ldN Tryd.underlying27 Y27) ?_
      refine L.Gy hb14 Y.mv ?_
      refine L.Gy hb14 Y.mv ?_
      replace h := Option.bind_eq_some_iff.1 h
      obtain ⟨t385, hc15, h⟩ := h
      refine L.GC hb14 (C.callE (l := true) [] Tryd.func135 (impl_Table_marked.ac _ _ _ _ _ _ hc15) .nil ?_)
      refine L.Gy hb14 Y.nt ?_
      refine L.Y (Y.pk (c := true) hb14) ?_
      refine L.Y Y.mv ?_
      refine L.Gc (fun hb => ?_) (fun hb => ?_)
      ·
       have hb16 := hb
       try simp only [hS, hE, ne_eq] at hb
       first | rw [if_pos hb16] at h | rw [if_neg (Bool.eq_false_iff.1 hb16)] at h | rw [if_pos hb] at h | rw [if_neg hb] at h | (simp only [hb, hT, reduceIte] at h) | skip
       refine L.Gs hb16 (S.ldN Tryd.underlying27 Y27) ?_
       refine L.Gy hb16 Y.mv ?_
       refine L.Gy hb16 Y.mv ?_
       replace h := Option.bind_eq_some_iff.1 h
       obtain ⟨t386, hc17, h⟩ := h
       refine L.GC hb16 (C.callE (l := true) [] Tryd.func135 (impl_Table_marked.ac _ _ _ _ _ _ hc17) .nil ?_)
       refine L.Y (Y.pk (c := true) hb16) ?_
       refine L.Y Y.mv ?_
       refine L.Gc (fun hb => ?_) (fun hb => ?_)
       ·
        have hb18 := hb
        try simp only [hS, hE, ne_eq] at hb
        first | rw [if_pos hb18] at h | rw [if_neg (Bool.eq_false_iff.1 hb18)] at h | rw [if_pos hb] at h | rw [if_neg hb] at h | (simp only [hb, hT, reduceIte] at h) | skip
        refine L.Gs hb18 (S.ldN Tryd.underlying27 Y27) ?_
        refine L.Gy hb18 Y.mv ?_
        refine L.Gy hb18 Y.mv ?_
        replace h := Option.bind_eq_some_iff.1 h
        obtain ⟨t387, hc19, h⟩ := h
        refine L.GC hb18 (C.callE (l := true) [] Tryd.func135 (impl_Table_marked.ac _ _ _ _ _ _ hc19) .nil ?_)
        refine L.Gy hb18 Y.nt ?_
        refine L.Y (Y.pk (c := true) hb18) ?_
        refine AList.nil ?_
        refine W.cond (fun hb => ?_) (fun hb => ?_)
        ·
         have hb20 := hb
         try simp only [hS, hE, ne_eq] at hb
         first | rw [if_pos hb20] at h | rw [if_neg (Bool.eq_false_iff.1 hb20)] at h | rw [if_pos hb] at h | rw [if_neg hb] at h | (simp only [hb, hT, reduceIte] at h) | skip
         repeat (first | (rw [iN] at h; obtain ⟨_, h⟩ := h) | (rw [iP] at h; obtain ⟨_, h⟩ := h) | (simp only [bS] at h))
         refine AWp.seq ?_
         refine W.kp [1, 3, 4, 5, 6, 8, 9, 13, 14, 18, 19, 23, 24, 25, 50] ?_
         refine AWp.region ?_
         refine L.Y Y.mv ?_
         refine L.Y Y.mv ?_
         refine L.Y Y.mv ?_
         refine L.Y Y.mv ?_
         refine L.M (M.bs Tryd.underlying22 Y3) ?_
         refine L.Y Y.asg ?_
         refine AList.nil ?_
         obtain rfl := Option.some.inj h
         refine AWp.ret ?_
         exact ⟨.inr rfl, [(2, _)], _, .inr ⟨by first | assumption | simp, rfl, rfl⟩, IsPart.at [] [1] base0 (H.c .nil) (E.c .nil)⟩
        ·
         have hb20 := hb
         try simp only [hS, hE, ne_eq] at hb
         first | rw [if_pos hb20] at h | rw [if_neg (Bool.eq_false_iff.1 hb20)] at h | rw [if_pos hb] at h | rw [if_neg hb] at h | (simp only [hb, hT, reduceIte] at h) | skip
         refine AWp.skip ?_
         refine W.kp [1, 3, 4, 5, 6, 8, 9, 13, 14, 18, 19, 23, 24, 25, 50] ?_
         refine AWp.region ?_
         refine L.Y Y.bin ?_
         refine L.Y Y.mv ?_
         refine AList.nil ?_
         exact ⟨k10, by omega, _, _, ⟨by omega, _, _, _, _, _, _, _, _, _, _, _, _, _, rfl, rfl, h⟩, IsPart.at [] [0] base0 (H.c .nil) (E.c (E.c (E.c (E.c (E.c (E.c (E.c (E.c (E.c (E.c (E.c (E.c .nil))))))))))))⟩
       ·
        have hb18 := hb
        try simp only [hS, hE, ne_eq] at hb
        first | rw [if_pos hb18] at h | rw [if_neg (Bool.eq_false_iff.1 hb18)] at h | rw [if_pos hb] at h | rw [if_neg hb] at h | (simp only [hb, hT, reduceIte] at h) | skip
        refine L.Gn hb18 ?_
        refine L.Gn hb18 ?_
        refine L.Gn hb18 ?_
        refine L.Gn hb18 ?_
        refine L.Gn hb18 ?_
        refine L.Y (Y.pk (c := false) hb18) ?_
        refine AList.nil ?_
        refine W.cond (fun hb => ?_) (fun hb => ?_)
        ·
         first | exact Bool.false_ne_true ((Eq.symm (by assumption)).trans hb) | exact Bool.false_ne_true (hb.symm.trans (by assumption)) | exact DD hb
        have hb21 := hb
        refine AWp.skip ?_
        refine W.kp [1, 3, 4, 5, 6, 8, 9, 13, 14, 18, 19, 23, 24, 25, 50] ?_
        refine AWp.region ?_
        refine L.Y Y.bin ?_
        refine L.Y Y.mv ?_
        refine AList.nil ?_
        exact ⟨k10, by omega, _, _, ⟨by omega, _, _, _, _, _, _, _, _, _, _, _, _, _, rfl, rfl, h⟩, IsPart.at [] [0] base0 (H.c .nil) (E.c (E.c (E.c (E.c (E.c (E.c (E.c (E.c (E.c (E.c (E.c (E.c .nil))))))))))))⟩
      ·
       have hb16 := hb
       try simp only [hS, hE, ne_eq] at hb
       first | rw [if_pos hb16] at h | rw [if_neg (Bool.eq_false_iff.1 hb16)] at h | rw [if_pos hb] at h | rw [if_neg hb] at h | (simp only [hb, hT, reduceIte] at h) | skip
       refine L.Gn hb16 ?_
       refine L.Gn hb16 ?_
       refine L.Gn hb16 ?_
       refine L.Gn hb16 ?_
       refine L.Y (Y.pk (c := false) hb16) ?_
       refine L.Y Y.mv ?_
       refine L.Gc (fun hb => ?_) (fun hb => ?_)
       ·
        first | exact Bool.false_ne_true ((Eq.symm (by assumption)).trans hb) | exact Bool.false_ne_true (hb.symm.trans (by assumption)) | exact DD hb
       have hb22 := hb
       refine L.Gn hb22 ?_
       refine L.Gn hb22 ?_
       refine L.Gn hb22 ?_
       refine L.Gn hb22 ?_
       refine L.Gn hb22 ?_
       refine L.Y (Y.pk (c := false) hb22) ?_
       refine AList.nil ?_
       refine W.cond (fun hb => ?_) (fun hb => ?_)
       ·
        first | exact Bool.false_ne_true ((Eq.symm (by assumption)).trans hb) | exact Bool.false_ne_true (hb.symm.trans (by assumption)) | exact DD hb
       have hb23 := hb
       refine AWp.skip ?_
       refine W.kp [1, 3, 4, 5, 6, 8, 9, 13, 14, 18, 19, 23, 24, 25, 50] ?_
       refine AWp.region ?_
       refine L.Y Y.bin ?_
       refine L.Y Y.mv ?_
       refine AList.nil ?_
       exact ⟨k10, by omega, _, _, ⟨by omega, _, _, _, _, _, _, _, _, _, _, _, _, _, rfl, rfl, h⟩, IsPart.at [] [0] base0 (H.c .nil) (E.c (E.c (E.c (E.c (E.c (E.c (E.c (E.c (E.c (E.c (E.c (E.c .nil))))))))))))⟩
     ·
      have hb14 := hb
      try simp only [hS, hE, ne_eq] at hb
      first | rw [if_pos hb14] at h | rw [if_neg (Bool.eq_false_iff.1 hb14)] at h | rw [if_pos hb] at h | rw [if_neg hb] at h | (simp only [hb, hT, reduceIte] at h) | skip
      refine L.Gn hb14 ?_
      refine L.Gn hb14 ?_
      refine L.Gn hb14 ?_
      refine L.Gn hb14 ?_
      refine L.Gn hb14 ?_
      refine L.Y (Y.pk (c := false) hb14) ?_
      refine L.Y Y.mv ?_
      refine L.Gc (fun hb => ?_) (fun hb => ?_)
      ·
       first | exact Bool.false_ne_true ((Eq.symm (by assumption)).trans hb) | exact Bool.false_ne_true (hb.symm.trans (by assumption)) | exact DD hb
      have hb24 := hb
      refine L.Gn hb24 ?_
      refine L.Gn hb24 ?_
      refine L.Gn hb24 ?_
      refine L.Gn hb24 ?_
      refine L.Y (Y.pk (c := false) hb24) ?_
      refine L.Y Y.mv ?_
      refine L.Gc (fun hb => ?_) (fun hb => ?_)
      ·
       first | exact Bool.false_ne_true ((Eq.symm (by assumption)).trans hb) | exact Bool.false_ne_true (hb.symm.trans (by assumption)) | exact DD hb
      have hb25 := hb
      refine L.Gn hb25 ?_
      refine L.Gn hb25 ?_
      refine L.Gn hb25 ?_
      refine L.Gn hb25 ?_
      refine L.Gn hb25 ?_
      refine L.Y (Y.pk (c := false) hb25) ?_
      refine AList.nil ?_
      refine W.cond (fun hb => ?_) (fun hb => ?_)
      ·
       first | exact Bool.false_ne_true ((Eq.symm (by assumption)).trans hb) | exact Bool.false_ne_true (hb.symm.trans (by assumption)) | exact DD hb
      have hb26 := hb
      refine AWp.skip ?_
      refine W.kp [1, 3, 4, 5, 6, 8, 9, 13, 14, 18, 19, 23, 24, 25, 50] ?_
      refine AWp.region ?_
      refine L.Y Y.bin ?_
      refine L.Y Y.mv ?_
      refine AList.nil ?_
      exact ⟨k10, by omega, _, _, ⟨by omega, _, _, _, _, _, _, _, _, _, _, _, _, _, rfl, rfl, h⟩, IsPart.at [] [0] base0 (H.c .nil) (E.c (E.c (E.c (E.c (E.c (E.c (E.c (E.c (E.c (E.c (E.c (E.c .nil))))))))))))⟩
    ·
     have hb12 := hb
     try simp only [hS, hE, ne_eq] at hb
     first | rw [if_pos hb12] at h | rw [if_neg (Bool.eq_false_iff.1 hb12)] at h | rw [if_pos hb] at h | rw [if_neg hb] at h | (simp only [hb, hT, reduceIte] at h) | skip
     refine AWp.exit ?_
     refine AWp.region ?_
     refine L.Y Y.bin ?_
     refine L.Y Y.mv ?_
     refine AList.nil ?_
     exact ⟨k10, by omega, _, _, ⟨by omega, _, _, _, _, _, _, _, _, _, _, rfl, rfl, h⟩, IsPart.at [] [0] base0 (H.c .nil) (E.c (E.c (E.c (E.c (E.c (E.c (E.c (E.c (E.c .nil)))))))))⟩
   ·
    have hb9 := hb
    try simp only [hS, hE, ne_eq] at hb
    first | rw [if_pos hb9] at h | rw [if_neg (Bool.eq_false_iff.1 hb9)] at h | rw [if_pos hb] at h | rw [if_neg hb] at h | (simp only [hb, hT, reduceIte] at h) | skip
    refine AWp.exit ?_
    refine AWp.region ?_
    refine L.Y Y.bin ?_
    refine L.Y Y.mv ?_
    refine AList.nil ?_
    exact ⟨k7, by omega, _, _, ⟨by omega, _, _, _, _, _, _, _, rfl, rfl, h⟩, IsPart.at [] [0] base0 (H.c .nil) (E.c (E.c (E.c (E.c (E.c (E.c .nil))))))⟩
  ·
   have hb6 := hb
   try simp only [hS, hE, ne_eq] at hb
   first | rw [if_pos hb6] at h | rw [if_neg (Bool.eq_false_iff.1 hb6)] at h | rw [if_pos hb] at h | rw [if_neg hb] at h | (simp only [hb, hT, reduceIte] at h) | skip
   refine AWp.exit ?_
   refine AWp.region ?_
   refine L.Y Y.bin ?_
   refine L.Y Y.mv ?_
   refine AList.nil ?_
   exact ⟨k4, by omega, _, _, ⟨by omega, _, _, _, _, rfl, rfl, h⟩, IsPart.at [] [0] base0 (H.c .nil) (E.c (E.c (E.c .nil)))⟩
 ·
  have hb3 := hb
  try simp only [hS, hE, ne_eq] at hb
  first | rw [if_pos hb3] at h | rw [if_neg (Bool.eq_false_iff.1 hb3)] at h | rw [if_pos hb] at h | rw [if_neg hb] at h | (simp only [hb, hT, reduceIte] at h) | skip
  refine AWp.exit ?_
  refine AWp.seq ?_
  refine AWp.region ?_
  refine L.Y Y.asg ?_
  refine AList.nil ?_
  obtain rfl := Option.some.inj h
  refine AWp.ret ?_
  exact ⟨.inr rfl, [(2, _)], _, .inl ⟨rfl, rfl, rfl⟩, IsPart.at [] [] base0 .nil (E.c .nil)⟩

/-! ### impl_IsBiorder: function 40 -/
def impl_IsBiorder.f (k : Nat) (a0_0 : Int) (a0_1 : Int) (l0_2 : List Int) : Option (Bool × Bool) := (impl_IsTable.f k a0_0 a0_1 l0_2).bind fun t392 => (if t392 = true then ((impl_Table_fourCells.f k a0_0 a0_1 l0_2).bind fun t393 => (if t393 = [] then (some (true, true)) else (some (false, true)))) else (some (false, false)))
set_option maxRecDepth 100000 in
set_option maxHeartbeats 20000000 in
theorem impl_IsBiorder.ac (k : Nat) (a0_0 : Int) (a0_1 : Int) (l0_2 : List Int) (r1 : Bool) (r2 : Bool) (h : impl_IsBiorder.f k a0_0 a0_1 l0_2 = some (r1, r2)) :
  ACalls Tryd.prog 40 [.agg [.lit (.int .i64 a0_0), .lit (.int .i64 a0_1), .row 1 l0_2.length false (ints .i64 l0_2)]] [] (fun v H' => v = .tup [.lit (.bool r1), .lit (.bool r2)] ∧ H' = []) := by
 refine ACalls.ofP [2, 3] Tryd.func40 rfl (by exact Nat.le_of_ble_eq_true rfl) rfl (by decide) ?_
 simp only [Tryd.ntmps40, env0, impl_IsBiorder.f] at h ⊢
 refine AWp.seq ?_
 refine AWp.region ?_
 refine L.M M.bx ?_
 refine L.Y Y.asg ?_
 refine L.Y Y.asg ?_
 refine AList.nil ?_
 refine AWp.seq ?_
 refine AWp.seq ?_
 refine AWp.region ?_
 refine L.S (S.ldN Tryd.underlying27 Y27) ?_
 replace h := Option.bind_eq_some_iff.1 h
 obtain ⟨t392, hc1, h⟩ := h
 refine L.C (C.callE (l := true) [] Tryd.func99 (impl_IsTable.ac _ _ _ _ _ hc1) .nil ?_)
 refine L.Y Y.nt ?_
 refine AList.nil ?_
 refine W.cond (fun hb => ?_) (fun hb => ?_)
 ·
  have hb2 := hb
  try simp only [hS, hE, ne_eq] at hb
  first | rw [if_pos hb2] at h | rw [if_neg (Bool.eq_false_iff.1 hb2)] at h | rw [if_pos hb] at h | rw [if_neg hb] at h | (simp only [hb, hT, reduceIte] at h) | skip
  refine AWp.seq ?_
  refine AWp.region ?_
  refine L.Y Y.asg ?_
  refine L.Y Y.asg ?_
  refine AList.nil ?_
  simp only [Option.some.injEq, Prod.mk.injEq] at h
  obtain ⟨rfl, rfl⟩ := h
  refine AWp.ret ?_
  exact ⟨.inr rfl, [(2, _), (3, _)], _, ⟨rfl, rfl⟩, IsPart.at [] [] base0 .nil (E.c (E.c .nil))⟩
 ·
  have hb2 := hb
  try simp only [hS, hE, ne_eq] at hb
  first | rw [if_pos hb2] at h | rw [if_neg (Bool.eq_false_iff.1 hb2)] at h | rw [if_pos hb] at h | rw [if_neg hb] at h | (simp only [hb, hT, reduceIte] at h) | skip
  refine AWp.skip ?_
  refine AWp.seq ?_
  refine AWp.region ?_
  refine L.S (S.ldN Tryd.underlying27 Y27) ?_
  replace h := Option.bind_eq_some_iff.1 h
  obtain ⟨t393, hc3, h⟩ := h
  rcases Classical.em (t393 = []) with hq | hq
  ·
   have hq0 : t393.length = 0 := by rw [hq]; rfl
   have hq1 : (ints .i64 t393) = [] := by rw [hq]; rfl
   refine L.C (C.callE (l := true) [] Tryd.func100 ((impl_Table_fourCells.acq _ _ _ _ _ hc3).conseq (fun _ _ q => q.elim (fun z => z.2) (fun z => absurd hq z.1))) .nil ?_)
   refine L.Y (Y.nq Tryd.underlying22) ?_
   refine L.Y Y.asg ?_
   refine L.Y Y.asg ?_
   refine AList.nil ?_
   rw [if_pos hq] at h
   simp only [Option.some.injEq, Prod.mk.injEq] at h
   obtain ⟨rfl, rfl⟩ := h
   refine AWp.ret ?_
   exact ⟨.inr rfl, [(2, _), (3, _)], _, ⟨rfl, rfl⟩, IsPart.at [] [] base0 .nil (E.c (E.c .nil))⟩
  ·
   skip
   refine L.C (C.callE (l := true) [] Tryd.func100 ((impl_Table_fourCells.acq _ _ _ _ _ hc3).conseq (fun _ _ q => q.elim (fun z => absurd z.1 hq) (fun z => z.2))) .nil ?_)
   refine L.Y (Y.nq Tryd.underlying22) ?_
   refine L.Y Y.asg ?_
   refine L.Y Y.asg ?_
   refine AList.nil ?_
   rw [if_neg hq] at h
   simp only [Option.some.injEq, Prod.mk.injEq] at h
   obtain ⟨rfl, rfl⟩ := h
   refine AWp.ret ?_
   exact ⟨.inr rfl, [(2, _), (3, _)], _, ⟨rfl, rfl⟩, IsPart.at [] [] base0 .nil (E.c (E.c .nil))⟩

/-! ### impl_FourCells: function 41 -/
def impl_FourCells.f (k : Nat) (a0_0 : Int) (a0_1 : Int) (l0_2 : List Int) : Option (List Int × Bool) := (impl_IsTable.f k a0_0 a0_1 l0_2).bind fun t397 => (if t397 = true then ((impl_Table_fourCells.f k a0_0 a0_1 l0_2).bind fun t398 => (if t398 = [] then (some (t398, false)) else (some (t398, true)))) else (some (([] : List Int), false)))
set_option maxRecDepth 100000 in
set_option maxHeartbeats 20000000 in
theorem impl_FourCells.ac (k : Nat) (a0_0 : Int) (a0_1 : Int) (l0_2 : List Int) (r1 : List Int) (r2 : Bool) (h : impl_FourCells.f k a0_0 a0_1 l0_2 = some (r1, r2)) :
  ACalls Tryd.prog 41 [.agg [.lit (.int .i64 a0_0), .lit (.int .i64 a0_1), .row 1 l0_2.length false (ints .i64 l0_2)]] [] (fun v H' => v = .tup [.own 0 r1.length, .lit (.bool r2)] ∧ H' = [.sl 3 1 r1.length false (ints .i64 r1)]) := by
 refine ACalls.ofP [2, 3] Tryd.func41 rfl (by exact Nat.le_of_ble_eq_true rfl) rfl (by decide) ?_
 simp only [Tryd.ntmps41, env0, impl_FourCells.f] at h ⊢
 refine AWp.seq ?_
 refine AWp.region ?_
 refine L.M M.bx ?_
 refine L.Y Y.asg ?_
 refine L.Y Y.asg ?_
 refine AList.nil ?_
 refine AWp.seq ?_
 refine AWp.seq ?_
 refine AWp.region ?_
 refine L.S (S.ldN Tryd.underlying27 Y27) ?_
 replace h := Option.bind_eq_some_iff.1 h
 obtain ⟨t397, hc1, h⟩ := h
 refine L.C (C.callE (l := true) [] Tryd.func99 (impl_IsTable.ac _ _ _ _ _ hc1) .nil ?_)
 refine L.Y Y.nt ?_
 refine AList.nil ?_
 refine W.cond (fun hb => ?_) (fun hb => ?_)
 ·
  have hb2 := hb
  try simp only [hS, hE, ne_eq] at hb
  first | rw [if_pos hb2] at h | rw [if_neg (Bool.eq_false_iff.1 hb2)] at h | rw [if_pos hb] at h | rw [if_neg hb] at h | (simp only [hb, hT, reduceIte] at h) | skip
  refine AWp.seq ?_
  refine AWp.region ?_
  refine L.Y Y.asg ?_
  refine L.Y Y.asg ?_
  refine AList.nil ?_
  simp only [Option.some.injEq, Prod.mk.injEq] at h
  obtain ⟨rfl, rfl⟩ := h
  refine AWp.ret ?_
  exact ⟨.inr rfl, [(2, _), (3, _)], _, ⟨rfl, rfl⟩, IsPart.at [(3, 1)] [1] base0 (H.c .nil) (E.c (E.c .nil))⟩
 ·
  have hb2 := hb
  try simp only [hS, hE, ne_eq] at hb
  first | rw [if_pos hb2] at h | rw [if_neg (Bool.eq_false_iff.1 hb2)] at h | rw [if_pos hb] at h | rw [if_neg hb] at h | (simp only [hb, hT, reduceIte] at h) | skip
  refine AWp.skip ?_
  refine AWp.seq ?_
  refine AWp.region ?_
  refine L.S (S.ldN Tryd.underlying27 Y27) ?_
  replace h := Option.bind_eq_some_iff.1 h
  obtain ⟨t398, hc3, h⟩ := h
  rcases Classical.em (t398 = []) with hq | hq
  ·
   have hq0 : t398.length = 0 := by rw [hq]; rfl
   have hq1 : (ints .i64 t398) = [] := by rw [hq]; rfl
   refine L.C (C.callE (l := true) [] Tryd.func100 ((impl_Table_fourCells.acq _ _ _ _ _ hc3).conseq (fun _ _ q => q.elim (fun z => z.2) (fun z => absurd hq z.1))) .nil ?_)
   refine L.Y Y.asg ?_
   refine AList.nil ?_
   refine AWp.seq ?_
   refine W.kp [0, 1, 2, 3, 4, 7] ?_
   refine AWp.region ?_
   refine L.Y Y.mv ?_
   refine L.Y Y.mv ?_
   refine L.Y (Y.nn Tryd.underlying22) ?_
   refine L.Y Y.asg ?_
   refine L.Y Y.asg ?_
   refine AList.nil ?_
   rw [if_pos hq] at h
   simp only [Option.some.injEq, Prod.mk.injEq] at h
   obtain ⟨rfl, rfl⟩ := h
   refine AWp.ret ?_
   exact ⟨.inr rfl, [(2, _), (3, _)], _, ⟨rfl, rfl⟩, IsPart.at [(3, 1)] [1] base0 (H.c .nil) (E.c (E.c .nil))⟩
  ·
   skip
   refine L.C (C.callE (l := true) [] Tryd.func100 ((impl_Table_fourCells.acq _ _ _ _ _ hc3).conseq (fun _ _ q => q.elim (fun z => absurd z.1 hq) (fun z => z.2))) .nil ?_)
   refine L.Y Y.asg ?_
   refine AList.nil ?_
   refine AWp.seq ?_
   refine W.kp [0, 1, 2, 3, 4, 7] ?_
   refine AWp.region ?_
   refine L.Y Y.mv ?_
   refine L.Y Y.mv ?_
   refine L.Y (Y.nn Tryd.underlying22) ?_
   refine L.Y Y.asg ?_
   refine L.Y Y.asg ?_
   refine AList.nil ?_
   rw [if_neg hq] at h
   simp only [Option.some.injEq, Prod.mk.injEq] at h
   obtain ⟨rfl, rfl⟩ := h
   refine AWp.ret ?_
   exact ⟨.inr rfl, [(2, _), (3, _)], _, ⟨rfl, rfl⟩, IsPart.at [] [1] base0 (H.c .nil) (E.c (E.c .nil))⟩

end Go.Proofs.YtpippjgphndjmaaDoor.PFnOrdersAsTables
