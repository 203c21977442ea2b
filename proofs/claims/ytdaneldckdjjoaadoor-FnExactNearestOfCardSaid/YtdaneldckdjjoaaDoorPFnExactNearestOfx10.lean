-- Written by a program of this session's (wip/myprint2): the functions by the kit's print, the walks by awgen.py. Lean checks it.
import Derived.Test.YtdaneldckdjjoaaDoorPFnExactNearestOfx0
import Derived.Test.YtdaneldckdjjoaaDoorPFnExactNearestOfx5
import Derived.Test.YtdaneldckdjjoaaDoorPFnExactNearestOfx9
namespace Go.Proofs.YtdaneldckdjjoaaDoor.PFnExactNearestOf
open Go.RowKit Go.Proofs.YtdaneldckdjjoaaDoorW.PrintWords Go.Proofs.YtdaneldckdjjoaaDoorW.PrintLast Go.Proofs.YtdaneldckdjjoaaDoorW.PrintMore Go.Proofs.YtdaneldckdjjoaaDoorM Go.Proofs.YtdaneldckdjjoaaDoorA Go.Proofs.YtdaneldckdjjoaaDoorT
attribute [local go_sem] max2_int min2_int max_two min_two max_three min_three max_four min_four   -- for this text's walks alone
set_option linter.unusedVariables false
set_option linter.unusedSimpArgs false

/-! ### impl_apart: function 21 -/
def impl_apart.l0 : Nat → Int → List Int → Int → Int → Int → List Int → Option (Int)
 | 0, _, _, _, _, _, _ => none
 | k + 1, x5, x9, x10, x11, x389000, x389001 => if x11 < x10 then (if 0 ≤ x11 then (if x11 < (x9.length : Int) then (if x11 < (x389001.length : Int) then ((impl_count.f (Go.bits .xor .i64 (rd x9 x11) (rd x389001 x11))).bind fun t391 => (impl_apart.l0 k (wrap64 (x5 + t391)) x9 x10 (wrap64 (x11 + 1)) x389000 x389001)) else (none)) else (none)) else (none)) else (some x5)
def impl_apart.f (k : Nat) (a0_0 : Int) (l0_1 : List Int) (a1_0 : Int) (l1_1 : List Int) : Option (Int) := impl_apart.l0 k 0 l0_1 (l0_1.length : Int) 0 a1_0 l1_1
set_option maxRecDepth 100000 in
set_option maxHeartbeats 20000000 in
theorem impl_apart.ac (k : Nat) (a0_0 : Int) (l0_1 : List Int) (a1_0 : Int) (l1_1 : List Int) (r : Int) (h : impl_apart.f k a0_0 l0_1 a1_0 l1_1 = some r) :
  ACalls Tryd.prog 21 [.agg [.lit (.int .i64 a0_0), .row 1 l0_1.length false (ints .i64 l0_1)], .agg [.lit (.int .i64 a1_0), .row 1 l1_1.length false (ints .i64 l1_1)]] [] (fun v H' => v = .lit (.int .i64 r) ∧ H' = []) := by
 refine ACalls.ofP [4] Tryd.func21 rfl (by exact Nat.le_of_ble_eq_true rfl) rfl (by decide) ?_
 simp only [Tryd.ntmps21, env0, impl_apart.f] at h ⊢
 refine AWp.seq ?_
 refine AWp.region ?_
 refine L.M M.bx ?_
 refine L.M M.bx ?_
 refine L.Y Y.asg ?_
 refine AList.nil ?_
 refine AWp.seq ?_
 refine AWp.region ?_
 refine L.Y Y.asg ?_
 refine AList.nil ?_
 refine AWp.seq ?_
 refine AWp.seq ?_
 refine AWp.region ?_
 refine L.Y (Y.fa (off := 1) Tryd.underlying26 Y22) ?_
 refine L.S (S.ld Tryd.underlying22) ?_
 refine L.Y (Y.ln Tryd.underlying22) ?_
 refine L.Y Y.mv ?_
 refine AList.nil ?_
 refine AWp.block ?_
 refine AWp.loopI (fun kk e H => kk ≤ k ∧ ∃ (x5 : Int) (x10 : Int) (x11 : Int) (x388000 : Int) (x389000 : Int), e = [(2, .ptr 0 0), (3, .ptr 1 0), (5, .lit (.int .i64 x5)), (9, .row 1 l0_1.length false (ints .i64 l0_1)), (10, .lit (.int .i64 x10)), (11, .lit (.int .i64 x11))] ∧ H = [.bx 26 [.lit (.int .i64 x388000), .row 1 l0_1.length false (ints .i64 l0_1)], .bx 26 [.lit (.int .i64 x389000), .row 1 l1_1.length false (ints .i64 l1_1)]] ∧ impl_apart.l0 kk x5 l0_1 x10 x11 x389000 l1_1 = some r) (k := k)
  ⟨_, _, ⟨Nat.le_refl _, _, _, _, _, _, rfl, rfl, h⟩, IsPart.at [] [0, 1] base0 (H.c (H.c .nil)) (E.c (E.c (E.c (E.c (E.c (E.c .nil))))))⟩ ?_
 clear h
 rintro k1 e H ⟨hk2, x5, x10, x11, x388000, x389000, rfl, rfl, h⟩
 cases k1 with
 | zero => exact absurd h (by simp [impl_apart.l0])
 | succ k1 =>
 simp only [impl_apart.l0] at h
 refine AWp.seq ?_
 refine AWp.region ?_
 refine L.Y Y.bin ?_
 refine AList.nil ?_
 refine AWp.seq ?_
 refine W.cond (fun hb => ?_) (fun hb => ?_)
 ·
  have hb3 := hb
  try simp only [hS, hE, ne_eq] at hb
  first | rw [if_pos hb3] at h | rw [if_neg (Bool.eq_false_iff.1 hb3)] at h | rw [if_pos hb] at h | rw [if_neg hb] at h | (simp only [hb, hT, reduceIte] at h) | skip
  repeat (first | (rw [iN] at h; obtain ⟨_, h⟩ := h) | (rw [iP] at h; obtain ⟨_, h⟩ := h) | (simp only [bS] at h))
  refine AWp.skip ?_
  refine AWp.seq ?_
  refine AWp.block ?_
  refine AWp.seq ?_
  refine AWp.region ?_
  refine L.Y Y.mv ?_
  refine L.Y (Y.ixr Tryd.underlying22 Y3) ?_
  refine L.S (S.ld Tryd.underlying3) ?_
  refine L.Y Y.asg ?_
  refine L.Y Y.asg ?_
  refine AList.nil ?_
  refine AWp.region ?_
  refine L.Y Y.mv ?_
  refine L.Y Y.mv ?_
  refine L.Y (Y.fa (off := 1) Tryd.underlying26 Y22) ?_
  refine L.S (S.ld Tryd.underlying22) ?_
  refine L.Y Y.mv ?_
  refine L.Y (Y.ixr Tryd.underlying22 Y3) ?_
  refine L.S (S.ld Tryd.underlying3) ?_
  refine L.Y Y.bin ?_
  replace h := Option.bind_eq_some_iff.1 h
  obtain ⟨t391, hc4, h⟩ := h
  refine L.C (C.callE (l := true) [] Tryd.func36 (impl_count.ac _ _ hc4) .nil ?_)
  refine L.Y Y.bin ?_
  refine L.Y Y.asg ?_
  refine AList.nil ?_
  refine W.kp [2, 3, 5, 6, 7, 9, 10, 11, 12] ?_
  refine AWp.region ?_
  refine L.Y Y.bin ?_
  refine L.Y Y.mv ?_
  refine AList.nil ?_
  exact ⟨k1, by omega, _, _, ⟨by omega, _, _, _, _, _, rfl, rfl, h⟩, IsPart.at [] [0, 1] base0 (H.c (H.c .nil)) (E.c (E.c (E.c (E.c (E.c (E.c .nil))))))⟩
 ·
  have hb3 := hb
  try simp only [hS, hE, ne_eq] at hb
  first | rw [if_pos hb3] at h | rw [if_neg (Bool.eq_false_iff.1 hb3)] at h | rw [if_pos hb] at h | rw [if_neg hb] at h | (simp only [hb, hT, reduceIte] at h) | skip
  refine AWp.exit ?_
  refine AWp.seq ?_
  refine AWp.region ?_
  refine L.Y Y.mv ?_
  refine L.Y Y.asg ?_
  refine AList.nil ?_
  obtain rfl := Option.some.inj h
  refine AWp.ret ?_
  exact ⟨.inr rfl, [(4, _)], _, ⟨rfl, rfl⟩, IsPart.at [] [] base0 .nil (E.c .nil)⟩

/-! ### impl_NearestOf: function 7 -/
section
variable {P : Program} {m N : Nat} {e : Env} {H : List AO} {K : Env → List AO → Prop} {ops : Array Oper} {rest : List Oper}
/-- What is left of a list whose elements' rows are taken out one by one. -/
def Left (xs : List S26) (i : Int) (D : List DV) : Prop := i < 9223372036854775808 ∧ D.length = (DE 3 xs).length ∧ D.all DV.noid = true ∧ (0 ≤ i → ∀ j, i.toNat * 2 ≤ j → D[j]? = (DE 3 xs)[j]?)
variable {xs : List S26} {i : Int} {D : List DV}
theorem Left.start (xs : List S26) : Left xs 0 (DE 3 xs) := ⟨by decide, rfl, DE_noid _ _, fun _ _ _ => rfl⟩
theorem Left.c0 (h : Left xs i D) (h0 : 0 ≤ i) (h1 : i < xs.length) : D[i.toNat * 2]? = some (.v (.lit (.int .i64 (Enc.rd xs i).f0))) := by
 rw [h.2.2.2 h0 _ (Nat.le_refl _)]; exact DE_get (p := 0) (y := .lit (.int .i64 (Enc.rd xs i).f0)) h0 h1 rfl
theorem Left.c1 (h : Left xs i D) (h0 : 0 ≤ i) (h1 : i < xs.length) : D[i.toNat * 2 + 1]? = some (.r 3 1 (Enc.rd xs i).f1.length (ints .i64 (Enc.rd xs i).f1)) := by
 rw [h.2.2.2 h0 _ (by omega)]; exact DE_get (p := 1) (y := .row 1 (Enc.rd xs i).f1.length false (ints .i64 (Enc.rd xs i).f1)) h0 h1 rfl
theorem Left.two (h : Left xs i D) (h0 : 0 ≤ i) (h1 : i < xs.length) (y : AV) : ∃ rest, vpre ((D.set (i.toNat * 2 + 1) (.v y)).drop (i.toNat * 2)) = .lit (.int .i64 (Enc.rd xs i).f0) :: y :: rest := by
 have k0 := h.c0 h0 h1
 have k1 := (List.getElem?_eq_some_iff.1 (h.c1 h0 h1)).1
 obtain ⟨hl, k0⟩ := List.getElem?_eq_some_iff.1 k0
 rw [List.drop_eq_getElem_cons (by rw [List.length_set]; omega), List.drop_eq_getElem_cons (by rw [List.length_set]; omega), List.getElem_set_ne (by omega), List.getElem_set_self, k0]
 exact ⟨_, rfl⟩
theorem Left.next (h : Left xs i D) (h0 : 0 ≤ i) : Left xs (wrap64 (i + 1)) (D.set (i.toNat * 2 + 1) (.v .any)) := by
 obtain ⟨h1, h2, h3, h4⟩ := h
 have hw : wrap64 (i + 1) = if i + 1 < 9223372036854775808 then i + 1 else -9223372036854775808 := by
  unfold wrap64; split <;> omega
 refine ⟨by rw [hw]; split <;> omega, by rw [List.length_set, h2], ?_, ?_⟩
 ·
  rw [List.all_eq_true] at h3 ⊢
  intro x hx
  rcases List.mem_or_eq_of_mem_set hx with hx | rfl
  ·
   exact h3 x hx
  ·
   rfl
 ·
  intro k j hj
  rw [hw] at k hj
  split at k
  ·
   rename_i q
   rw [if_pos q] at hj
   rw [List.getElem?_set_ne (by omega)]
   exact h4 h0 j (by omega)
  ·
   omega
theorem Left.gh {S : List Nat} {H1 H' : List AO} (g : Gh N S e H e H1) (hH : H1 = H') (h : AList P m N ops rest e H' K) : AList P m N ops rest e H K := by subst hH; exact AList.gh g h
theorem Left.mem_ {et : TypeId} {id n s off : Nat} {nn : Bool} {cells : List DV} {cs : List AV} (hH : H[id]? = some (.dp et s n nn cells)) (hv : vpre (cells.drop off) = cs) : mem H (.optr id n off) = some cs := by simp only [mem, hH, if_true, hv]
theorem Left.forget {et : TypeId} {id k s n : Nat} {nn : Bool} {cells : List DV} {y : DV} (h0 : H[id]? = some (.dp et s n nn (cells.set k y))) : Gh N [id] e H e (H.set id (.dp et s n nn (cells.set k (.v .any)))) := by
 refine Gh.dpImp h0 (by simp only [List.length_set]) fun R A w j x z u hx hz hd => ?_
 by_cases hj : j = k
 ·
  subst hj
  rw [List.getElem?_set_self (by have := (List.getElem?_eq_some_iff.1 hz).1; simpa only [List.length_set] using this)] at hz
  cases hz
  exact ⟨by simp [DR, VR], fun h => by cases h⟩
 ·
  rw [List.getElem?_set_ne (Ne.symm hj)] at hx hz
  rw [hx] at hz
  cases hz
  exact ⟨hd, fun h => .inl h⟩
end
mutual
def impl_NearestOf.j0 : Nat → Int → Bool → Int → List Int → Option (Int × List Int × Int × Bool)
 | 0, _, _, _, _ => none
 | k + 1, x1, x21, x393000, x393001 => if x21 = true then (some (0, ([] : List Int), 0, false)) else ((impl_ordersOf.f k x393000 x1).bind fun t397 => (impl_NearestOf.l0 k (-1) t397 (t397.length : Int) 0 x393000 x393001 0 ([] : List Int)))
def impl_NearestOf.l0 : Nat → Int → List (S26) → Int → Int → Int → List Int → Int → List Int → Option (Int × List Int × Int × Bool)
 | 0, _, _, _, _, _, _, _, _ => none
 | k + 1, x8, x27, x28, x29, x393000, x393001, x397000, x397001 => if x29 < x28 then (if 0 ≤ x29 then (if x29 < (x27.length : Int) then ((impl_apart.f k x393000 x393001 ((Enc.rd x27 x29).f0) ((Enc.rd x27 x29).f1)).bind fun t402 => (if x8 < 0 then (impl_NearestOf.l0 k t402 x27 x28 (wrap64 (x29 + 1)) x393000 x393001 ((Enc.rd x27 x29).f0) ((Enc.rd x27 x29).f1)) else (if t402 < x8 then (impl_NearestOf.l0 k t402 x27 x28 (wrap64 (x29 + 1)) x393000 x393001 ((Enc.rd x27 x29).f0) ((Enc.rd x27 x29).f1)) else (impl_NearestOf.l0 k x8 x27 x28 (wrap64 (x29 + 1)) x393000 x393001 x397000 x397001)))) else (none)) else (none)) else (some (x397000, x397001, x8, true))
end
def impl_NearestOf.f (k : Nat) (a0_0 : Int) (l0_1 : List Int) (a1 : Int) : Option (Int × List Int × Int × Bool) := (impl_IsRelation.f k a0_0 l0_1).bind fun t394 => (if t394 = true then ((impl_isChoiceKind.f a0_0 a1).bind fun t395 => (impl_NearestOf.j0 k a1 (!t395) a0_0 l0_1)) else (impl_NearestOf.j0 k a1 true a0_0 l0_1))
set_option maxRecDepth 100000 in
set_option maxHeartbeats 20000000 in
theorem impl_NearestOf.ac (k : Nat) (a0_0 : Int) (l0_1 : List Int) (a1 : Int) (r1 : Int) (r2 : List Int) (r3 : Int) (r4 : Bool) (h : impl_NearestOf.f k a0_0 l0_1 a1 = some (r1, r2, r3, r4)) :
  ACalls Tryd.prog 7 [.agg [.lit (.int .i64 a0_0), .row 1 l0_1.length false (ints .i64 l0_1)], .lit (.int .i64 a1)] [] (fun v H' => v = .tup [.agg [.lit (.int .i64 r1), .own 0 r2.length], .lit (.int .i64 r3), .lit (.bool r4)] ∧ H' = [.sl 3 1 r2.length false (ints .i64 r2)]) := by
 refine ACalls.ofV Tryd.func7 rfl (by exact Nat.le_of_ble_eq_true rfl) ?_
 simp only [Tryd.ntmps7, env0, impl_NearestOf.f] at h ⊢
 refine AWp.seq ?_
 refine AWp.region ?_
 refine L.M M.bx ?_
 refine L.M (M.al Y26) ?_
 refine L.Y Y.asg ?_
 refine L.Y Y.asg ?_
 refine AList.nil ?_
 refine AWp.seq ?_
 refine AWp.seq ?_
 refine AWp.region ?_
 refine L.S (S.ldN Tryd.underlying26 Y26) ?_
 replace h := Option.bind_eq_some_iff.1 h
 obtain ⟨t394, hc1, h⟩ := h
 refine L.C (C.callE (l := true) [] Tryd.func18 (impl_IsRelation.ac _ _ _ _ hc1) .nil ?_)
 refine L.Y Y.nt ?_
 refine L.Y Y.mv ?_
 refine L.Gc (fun hb => ?_) (fun hb => ?_)
 ·
  have hb2 := hb
  try simp only [hS, hE, ne_eq] at hb
  first | rw [if_pos hb2] at h | rw [if_neg (Bool.eq_false_iff.1 hb2)] at h | rw [if_pos hb] at h | rw [if_neg hb] at h | (simp only [hb, hT, reduceIte] at h) | skip
  refine L.Gn hb2 ?_
  refine L.Gn hb2 ?_
  refine L.Gn hb2 ?_
  refine L.Gn hb2 ?_
  refine L.Gn hb2 ?_
  refine L.Y (Y.pk (c := true) hb2) ?_
  refine AList.nil ?_
  rcases k with _ | k
  ·
   exact absurd h (by simp [impl_NearestOf.j0])
  simp only [impl_NearestOf.j0] at h
  refine W.cond (fun hb => ?_) (fun hb => ?_)
  rotate_left
  ·
   first | exact Bool.false_ne_true ((Eq.symm (by assumption)).trans hb) | exact Bool.false_ne_true (hb.symm.trans (by assumption)) | exact DD hb
  have hb3 := hb
  try (first | rw [if_pos hb3] at h | rw [if_neg (Bool.eq_false_iff.1 hb3)] at h | rw [if_pos hb] at h | rw [if_neg hb] at h | (simp only [hb, hT, reduceIte] at h) | skip)
  refine AWp.seq ?_
  refine W.kp [0, 1, 2, 4, 5, 6, 21] ?_
  refine AWp.region ?_
  refine L.Y (Y.bd Tryd.underlying26 Y26 P26) ?_
  refine L.S (S.stb Y26) ?_
  refine L.Y Y.asg ?_
  refine L.Y Y.asg ?_
  refine AList.nil ?_
  simp only [Option.some.injEq, Prod.mk.injEq] at h
  obtain ⟨rfl, rfl, rfl, rfl⟩ := h
  refine AWp.ret ?_
  exact ⟨.inr rfl, _, _, _, Res.n3 (Res1.cl (p := 4) Tryd.underlying26 Y26) (Res1.tm (q := 5)) (Res1.tm (q := 6)), ⟨rfl, rfl⟩, PartV.at [(3, 1)] [2] base0 (H.c .nil)⟩
 ·
  have hb2 := hb
  try simp only [hS, hE, ne_eq] at hb
  first | rw [if_pos hb2] at h | rw [if_neg (Bool.eq_false_iff.1 hb2)] at h | rw [if_pos hb] at h | rw [if_neg hb] at h | (simp only [hb, hT, reduceIte] at h) | skip
  refine L.Gy hb2 (Y.fa (off := 0) Tryd.underlying26 Y3) ?_
  refine L.Gs hb2 (S.ld Tryd.underlying3) ?_
  refine L.Gy hb2 Y.mv ?_
  replace h := Option.bind_eq_some_iff.1 h
  obtain ⟨t395, hc4, h⟩ := h
  refine L.GC hb2 (C.callE (l := true) [] Tryd.func19 (impl_isChoiceKind.ac _ _ _ hc4) .nil ?_)
  refine L.Gy hb2 Y.nt ?_
  refine L.Y (Y.pk (c := false) hb2) ?_
  refine AList.nil ?_
  rcases k with _ | k
  ·
   exact absurd h (by simp [impl_NearestOf.j0])
  simp only [impl_NearestOf.j0] at h
  refine W.cond (fun hb => ?_) (fun hb => ?_)
  ·
   have hb5 := hb
   try simp only [hS, hE, ne_eq] at hb
   first | rw [if_pos hb5] at h | rw [if_neg (Bool.eq_false_iff.1 hb5)] at h | rw [if_pos hb] at h | rw [if_neg hb] at h | (simp only [hb, hT, reduceIte] at h) | skip
   refine AWp.seq ?_
   refine W.kp [0, 1, 2, 4, 5, 6, 21] ?_
   refine AWp.region ?_
   refine L.Y (Y.bd Tryd.underlying26 Y26 P26) ?_
   refine L.S (S.stb Y26) ?_
   refine L.Y Y.asg ?_
   refine L.Y Y.asg ?_
   refine AList.nil ?_
   simp only [Option.some.injEq, Prod.mk.injEq] at h
   obtain ⟨rfl, rfl, rfl, rfl⟩ := h
   refine AWp.ret ?_
   exact ⟨.inr rfl, _, _, _, Res.n3 (Res1.cl (p := 4) Tryd.underlying26 Y26) (Res1.tm (q := 5)) (Res1.tm (q := 6)), ⟨rfl, rfl⟩, PartV.at [(3, 1)] [2] base0 (H.c .nil)⟩
  ·
   have hb5 := hb
   try simp only [hS, hE, ne_eq] at hb
   first | rw [if_pos hb5] at h | rw [if_neg (Bool.eq_false_iff.1 hb5)] at h | rw [if_pos hb] at h | rw [if_neg hb] at h | (simp only [hb, hT, reduceIte] at h) | skip
   refine AWp.skip ?_
   refine AWp.seq ?_
   refine W.kp [0, 1, 2, 4, 5, 6, 21] ?_
   refine AWp.region ?_
   refine L.Y (Y.bd Tryd.underlying26 Y26 P26) ?_
   refine L.M (M.al Y26) ?_
   refine L.S (S.stb Y26) ?_
   refine L.Y Y.asg ?_
   refine AList.nil ?_
   refine AWp.seq ?_
   refine AWp.seq ?_
   refine AWp.region ?_
   refine L.Y (Y.fa (off := 0) Tryd.underlying26 Y3) ?_
   refine L.S (S.ld Tryd.underlying3) ?_
   refine L.Y Y.mv ?_
   replace h := Option.bind_eq_some_iff.1 h
   obtain ⟨t397, hc6, h⟩ := h
   refine L.C (C.callE (l := true) [] Tryd.func20 (impl_ordersOf.ac _ _ _ _ hc6) .nil ?_)
   refine L.Y (Y.lnD Tryd.underlying36) ?_
   refine L.Y Y.mv ?_
   refine AList.nil ?_
   refine AWp.block ?_
   refine AWp.loopI (fun kk e H => kk ≤ k ∧ ∃ (x8 : Int) (x27 : List (S26)) (x28 : Int) (x29 : Int) (x393000 : Int) (x394000 : Int) (x397000 : Int) (x397001 : List Int) (D : List DV), e = [(2, .ptr 0 0), (4, .ptr 1 0), (7, .ptr 2 0), (8, .lit (.int .i64 x8)), (27, .own 3 x27.length), (28, .lit (.int .i64 x28)), (29, .lit (.int .i64 x29))] ∧ H = [.bx 26 [.lit (.int .i64 x393000), .row 1 l0_1.length false (ints .i64 l0_1)], .bx 26 [.lit (.int .i64 x394000), .lit (.slice none 0 0)], .bx 26 [.lit (.int .i64 x397000), .own 4 x397001.length], .dp 26 2 x27.length false D, .sl 3 1 x397001.length false (ints .i64 x397001)] ∧ Left x27 x29 D ∧ impl_NearestOf.l0 kk x8 x27 x28 x29 x393000 l0_1 x397000 x397001 = some (r1, r2, r3, r4)) (k := k)
    ⟨_, _, ⟨Nat.le_refl _, _, _, _, _, _, _, _, _, _, rfl, rfl, Left.start _, h⟩, IsPart.at [(3, 1)] [0, 1, 2, 3, 4] base0 (H.c (H.c (H.c (H.c (H.c .nil))))) (E.c (E.c (E.c (E.c (E.c (E.c (E.c .nil)))))))⟩ ?_
   clear h
   rintro k7 e H ⟨hk8, x8, x27, x28, x29, x393000, x394000, x397000, x397001, D, rfl, rfl, hD, h⟩
   cases k7 with
   | zero => exact absurd h (by simp [impl_NearestOf.l0])
   | succ k7 =>
   simp only [impl_NearestOf.l0] at h
   refine AWp.seq ?_
   refine AWp.region ?_
   refine L.Y Y.bin ?_
   refine AList.nil ?_
   refine AWp.seq ?_
   refine W.cond (fun hb => ?_) (fun hb => ?_)
   ·
    have hb9 := hb
    try simp only [hS, hE, ne_eq] at hb
    first | rw [if_pos hb9] at h | rw [if_neg (Bool.eq_false_iff.1 hb9)] at h | rw [if_pos hb] at h | rw [if_neg hb] at h | (simp only [hb, hT, reduceIte] at h) | skip
    obtain ⟨h0, h⟩ := ite_some h
    obtain ⟨h1, h⟩ := ite_some h
    refine AWp.skip ?_
    refine AWp.seq ?_
    refine AWp.block ?_
    refine AWp.seq ?_
    refine AWp.region ?_
    obtain ⟨rest, hv⟩ := hD.two h0 h1 (.own 5 (Enc.rd x27 x29).f1.length)
    refine Left.gh (Gh.take (id := 3) rfl (hD.c1 h0 h1)) (by first | (simp only [awset13_, awset11_, awset12_, awset9_, awset10_, awset8_, awset_, awset2_, awset3_, awset4_, awset5_, awset6_, awset7_, List.map_cons, List.map_nil, fillA, setAt, binV, List.getElem?_cons_zero, List.getElem?_cons_succ, List.getElem?_nil, List.length_append, List.append_nil, Nat.reduceAdd, Nat.reduceMul, Nat.reduceSub, Nat.reduceEqDiff, Nat.reduceLT, Nat.reduceLeDiff, reduceIte, false_and] <;> rfl) | rfl) ?_
    refine L.Y (Y.ixoD Tryd.underlying36 Y26 h0 h1) ?_
    refine L.S (S.ldN (cs := _) Tryd.underlying26 Y26 (hm := Left.mem_ rfl hv) (hc := by simp only [List.length_cons]; omega) (hv := rfl)) ?_
    refine Left.gh (Left.forget (id := 3) (k := x29.toNat * 2 + 1) rfl) (by first | (simp only [awset13_, awset11_, awset12_, awset9_, awset10_, awset8_, awset_, awset2_, awset3_, awset4_, awset5_, awset6_, awset7_, List.map_cons, List.map_nil, fillA, setAt, binV, List.getElem?_cons_zero, List.getElem?_cons_succ, List.getElem?_nil, List.length_append, List.append_nil, Nat.reduceAdd, Nat.reduceMul, Nat.reduceSub, Nat.reduceEqDiff, Nat.reduceLT, Nat.reduceLeDiff, reduceIte, false_and] <;> rfl) | rfl) ?_
    refine L.M (M.al Y26) ?_
    refine L.S (S.stb Y26) ?_
    refine AList.nil ?_
    refine AWp.seq ?_
    refine AWp.region ?_
    refine L.S (S.ldN Tryd.underlying26 Y26) ?_
    refine L.S (S.ldN Tryd.underlying26 Y26) ?_
    replace h := Option.bind_eq_some_iff.1 h
    obtain ⟨t402, hc10, h⟩ := h
    refine L.C (C.callE (l := true) [] Tryd.func21 (impl_apart.ac _ _ _ _ _ _ hc10) .nil ?_)
    refine L.Y Y.asg ?_
    refine AList.nil ?_
    refine AWp.seq ?_
    refine W.kp [2, 4, 7, 8, 10, 11, 27, 28, 29, 30] ?_
    refine AWp.region ?_
    refine L.Y Y.mv ?_
    refine L.Y Y.bin ?_
    refine L.Y Y.mv ?_
    refine L.Gc (fun hb => ?_) (fun hb => ?_)
    ·
     have hb11 := hb
     try simp only [hS, hE, ne_eq] at hb
     first | rw [if_pos hb11] at h | rw [if_neg (Bool.eq_false_iff.1 hb11)] at h | rw [if_pos hb] at h | rw [if_neg hb] at h | (simp only [hb, hT, reduceIte] at h) | skip
     refine L.Gn hb11 ?_
     refine L.Gn hb11 ?_
     refine L.Gn hb11 ?_
     refine L.Y (Y.pk (c := true) hb11) ?_
     refine AList.nil ?_
     refine W.cond (fun hb => ?_) (fun hb => ?_)
     rotate_left
     ·
      first | exact Bool.false_ne_true ((Eq.symm (by assumption)).trans hb) | exact Bool.false_ne_true (hb.symm.trans (by assumption)) | exact DD hb
     have hb12 := hb
     refine W.kp [2, 4, 7, 8, 10, 11, 27, 28, 29, 30, 42] ?_
     refine AWp.region ?_
     refine L.S (S.ldN Tryd.underlying26 Y26) ?_
     refine L.Y Y.mv ?_
     refine L.S (S.stb Y26) ?_
     refine L.Y Y.asg ?_
     refine AList.nil ?_
     refine AWp.region ?_
     refine L.Y Y.bin ?_
     refine L.Y Y.mv ?_
     refine AList.nil ?_
     exact ⟨k7, by omega, _, _, ⟨by omega, _, _, _, _, _, _, _, _, _, rfl, rfl, hD.next h0, h⟩, IsPart.at [] [0, 1, 2, 3, 5] base0 (H.c (H.c (H.c (H.c (H.c .nil) (ho := SubO.dp (fun h => h) (hD.next h0).2.2.1))))) (E.c (E.c (E.c (E.c (E.c (E.c (E.c .nil)))))))⟩
    ·
     have hb11 := hb
     try simp only [hS, hE, ne_eq] at hb
     first | rw [if_pos hb11] at h | rw [if_neg (Bool.eq_false_iff.1 hb11)] at h | rw [if_pos hb] at h | rw [if_neg hb] at h | (simp only [hb, hT, reduceIte] at h) | skip
     refine L.Gy hb11 Y.mv ?_
     refine L.Gy hb11 Y.mv ?_
     refine L.Gy hb11 Y.bin ?_
     refine L.Y (Y.pk (c := false) hb11) ?_
     refine AList.nil ?_
     refine W.cond (fun hb => ?_) (fun hb => ?_)
     ·
      have hb13 := hb
      try simp only [hS, hE, ne_eq] at hb
      first | rw [if_pos hb13] at h | rw [if_neg (Bool.eq_false_iff.1 hb13)] at h | rw [if_pos hb] at h | rw [if_neg hb] at h | (simp only [hb, hT, reduceIte] at h) | skip
      refine W.kp [2, 4, 7, 8, 10, 11, 27, 28, 29, 30, 42] ?_
      refine AWp.region ?_
      refine L.S (S.ldN Tryd.underlying26 Y26) ?_
      refine L.Y Y.mv ?_
      refine L.S (S.stb Y26) ?_
      refine L.Y Y.asg ?_
      refine AList.nil ?_
      refine AWp.region ?_
      refine L.Y Y.bin ?_
      refine L.Y Y.mv ?_
      refine AList.nil ?_
      exact ⟨k7, by omega, _, _, ⟨by omega, _, _, _, _, _, _, _, _, _, rfl, rfl, hD.next h0, h⟩, IsPart.at [] [0, 1, 2, 3, 5] base0 (H.c (H.c (H.c (H.c (H.c .nil) (ho := SubO.dp (fun h => h) (hD.next h0).2.2.1))))) (E.c (E.c (E.c (E.c (E.c (E.c (E.c .nil)))))))⟩
     ·
      have hb13 := hb
      try simp only [hS, hE, ne_eq] at hb
      first | rw [if_pos hb13] at h | rw [if_neg (Bool.eq_false_iff.1 hb13)] at h | rw [if_pos hb] at h | rw [if_neg hb] at h | (simp only [hb, hT, reduceIte] at h) | skip
      refine AWp.skip ?_
      refine W.kp [2, 4, 7, 8, 10, 11, 27, 28, 29, 30, 42] ?_
      refine AWp.region ?_
      refine L.Y Y.bin ?_
      refine L.Y Y.mv ?_
      refine AList.nil ?_
      exact ⟨k7, by omega, _, _, ⟨by omega, _, _, _, _, _, _, _, _, _, rfl, rfl, hD.next h0, h⟩, IsPart.at [] [0, 1, 2, 3, 4] base0 (H.c (H.c (H.c (H.c (H.c .nil) (ho := SubO.dp (fun h => h) (hD.next h0).2.2.1))))) (E.c (E.c (E.c (E.c (E.c (E.c (E.c .nil)))))))⟩
   ·
    have hb9 := hb
    try simp only [hS, hE, ne_eq] at hb
    first | rw [if_pos hb9] at h | rw [if_neg (Bool.eq_false_iff.1 hb9)] at h | rw [if_pos hb] at h | rw [if_neg hb] at h | (simp only [hb, hT, reduceIte] at h) | skip
    refine AWp.exit ?_
    refine AWp.seq ?_
    refine AWp.region ?_
    refine L.S (S.ldN Tryd.underlying26 Y26) ?_
    refine L.Y Y.mv ?_
    refine L.S (S.stb Y26) ?_
    refine L.Y Y.asg ?_
    refine L.Y Y.asg ?_
    refine AList.nil ?_
    simp only [Option.some.injEq, Prod.mk.injEq] at h
    obtain ⟨rfl, rfl, rfl, rfl⟩ := h
    refine AWp.ret ?_
    exact ⟨.inr rfl, _, _, _, Res.n3 (Res1.cl (p := 4) Tryd.underlying26 Y26) (Res1.tm (q := 5)) (Res1.tm (q := 6)), ⟨rfl, rfl⟩, PartV.at [] [4] base0 (H.c .nil)⟩

/-! ### laws_eqIntS: function 22 -/
def laws_eqIntS.l0 : Nat → List Int → List Int → Int → Option (Bool)
 | 0, _, _, _ => none
 | k + 1, x0, x1, x5 => if x5 < (x0.length : Int) then (if 0 ≤ x5 then (if x5 < (x1.length : Int) then (if (rd x0 x5) = (rd x1 x5) then (laws_eqIntS.l0 k x0 x1 (wrap64 (x5 + 1))) else (some false)) else (none)) else (none)) else (some true)
def laws_eqIntS.f (k : Nat) (l0 : List Int) (l1 : List Int) : Option (Bool) := if (l0.length : Int) = (l1.length : Int) then (laws_eqIntS.l0 k l0 l1 0) else (some false)
set_option maxRecDepth 100000 in
set_option maxHeartbeats 20000000 in
theorem laws_eqIntS.ac (k : Nat) (l0 : List Int) (l1 : List Int) (r : Bool) (h : laws_eqIntS.f k l0 l1 = some r) :
  ACalls Tryd.prog 22 [.row 1 l0.length false (ints .i64 l0), .row 1 l1.length false (ints .i64 l1)] [] (fun v H' => v = .lit (.bool r) ∧ H' = []) := by
 refine ACalls.ofP [4] Tryd.func22 rfl (by exact Nat.le_of_ble_eq_true rfl) rfl (by decide) ?_
 simp only [Tryd.ntmps22, env0, laws_eqIntS.f] at h ⊢
 refine AWp.seq ?_
 refine AWp.region ?_
 refine L.Y Y.asg ?_
 refine AList.nil ?_
 refine AWp.seq ?_
 refine AWp.seq ?_
 refine AWp.region ?_
 refine L.Y Y.mv ?_
 refine L.Y (Y.ln Tryd.underlying22) ?_
 refine L.Y Y.mv ?_
 refine L.Y (Y.ln Tryd.underlying22) ?_
 refine L.Y Y.bin ?_
 refine AList.nil ?_
 refine W.cond (fun hb => ?_) (fun hb => ?_)
 ·
  have hb1 := hb
  try simp only [hS, hE, ne_eq] at hb
  first | rw [if_pos hb1] at h | rw [if_neg (Bool.eq_false_iff.1 hb1)] at h | rw [if_pos hb] at h | rw [if_neg hb] at h | (simp only [hb, hT, reduceIte] at h) | skip
  refine AWp.seq ?_
  refine W.kp [0, 1, 4, 10] ?_
  refine AWp.region ?_
  refine L.Y Y.asg ?_
  refine AList.nil ?_
  obtain rfl := Option.some.inj h
  refine AWp.ret ?_
  exact ⟨.inr rfl, [(4, _)], _, ⟨rfl, rfl⟩, IsPart.at [] [] base0 .nil (E.c .nil)⟩
 ·
  have hb1 := hb
  try simp only [hS, hE, ne_eq] at hb
  first | rw [if_pos hb1] at h | rw [if_neg (Bool.eq_false_iff.1 hb1)] at h | rw [if_pos hb] at h | rw [if_neg hb] at h | (simp only [hb, hT, reduceIte] at h) | skip
  refine AWp.skip ?_
  refine AWp.seq ?_
  refine AWp.seq ?_
  refine W.kp [0, 1, 4, 10] ?_
  refine AWp.region ?_
  refine L.Y Y.asg ?_
  refine AList.nil ?_
  refine AWp.block ?_
  refine AWp.loopI (fun kk e H => kk ≤ k ∧ ∃ (x5 : Int), e = [(0, .row 1 l0.length false (ints .i64 l0)), (1, .row 1 l1.length false (ints .i64 l1)), (5, .lit (.int .i64 x5))] ∧ H = [] ∧ laws_eqIntS.l0 kk l0 l1 x5 = some r) (k := k)
   ⟨_, _, ⟨Nat.le_refl _, _, rfl, rfl, h⟩, IsPart.at [] [] base0 .nil (E.c (E.c (E.c .nil)))⟩ ?_
  clear h
  rintro k2 e H ⟨hk3, x5, rfl, rfl, h⟩
  cases k2 with
  | zero => exact absurd h (by simp [laws_eqIntS.l0])
  | succ k2 =>
  simp only [laws_eqIntS.l0] at h
  refine AWp.seq ?_
  refine AWp.seq ?_
  refine AWp.region ?_
  refine L.Y Y.mv ?_
  refine L.Y Y.mv ?_
  refine L.Y (Y.ln Tryd.underlying22) ?_
  refine L.Y Y.bin ?_
  refine AList.nil ?_
  refine W.cond (fun hb => ?_) (fun hb => ?_)
  ·
   have hb4 := hb
   try simp only [hS, hE, ne_eq] at hb
   first | rw [if_pos hb4] at h | rw [if_neg (Bool.eq_false_iff.1 hb4)] at h | rw [if_pos hb] at h | rw [if_neg hb] at h | (simp only [hb, hT, reduceIte] at h) | skip
   repeat (first | (rw [iN] at h; obtain ⟨_, h⟩ := h) | (rw [iP] at h; obtain ⟨_, h⟩ := h) | (simp only [bS] at h))
   refine AWp.skip ?_
   refine AWp.seq ?_
   refine AWp.block ?_
   refine AWp.seq ?_
   refine Dt.reg [] [] (.y 0 (.y 1 (.y 2 (.t 3 (.y 4 (.y 5 (.y 6 (.t 7 (.y 8 .done))))))))) HM ?_
   refine Dt.Y rfl wantN Y.mv ?_
   refine Dt.Y rfl wantN Y.mv ?_
   refine Dt.Y rfl wantN (Y.ixr Tryd.underlying22 Y3) ?_
   refine Dt.T rfl wantN (D.ld Tryd.underlying3) ?_
   refine Dt.Y rfl wantN Y.mv ?_
   refine Dt.Y rfl wantN Y.mv ?_
   refine Dt.Y rfl wantN (Y.ixr Tryd.underlying22 Y3) ?_
   refine Dt.T rfl wantN (D.ld Tryd.underlying3) ?_
   refine Dt.Y rfl wantN Y.bin ?_
   refine Dt.nil ?_
   refine W.cond (fun hb => ?_) (fun hb => ?_)
   ·
    have hb5 := hb
    try simp only [hS, hE, ne_eq] at hb
    first | rw [if_pos hb5] at h | rw [if_neg (Bool.eq_false_iff.1 hb5)] at h | rw [if_pos hb] at h | rw [if_neg hb] at h | (simp only [hb, hT, reduceIte] at h) | skip
    refine AWp.seq ?_
    refine W.kp [0, 1, 5, 14, 25] ?_
    refine AWp.region ?_
    refine L.Y Y.asg ?_
    refine AList.nil ?_
    obtain rfl := Option.some.inj h
    refine AWp.ret ?_
    exact ⟨.inr rfl, [(4, _)], _, ⟨rfl, rfl⟩, IsPart.at [] [] base0 .nil (E.c .nil)⟩
   ·
    have hb5 := hb
    try simp only [hS, hE, ne_eq] at hb
    first | rw [if_pos hb5] at h | rw [if_neg (Bool.eq_false_iff.1 hb5)] at h | rw [if_pos hb] at h | rw [if_neg hb] at h | (simp only [hb, hT, reduceIte] at h) | skip
    refine AWp.skip ?_
    refine W.kp [0, 1, 5, 14, 25] ?_
    refine AWp.region ?_
    refine L.Y Y.mv ?_
    refine L.Y Y.bin ?_
    refine L.Y Y.asg ?_
    refine AList.nil ?_
    exact ⟨k2, by omega, _, _, ⟨by omega, _, rfl, rfl, h⟩, IsPart.at [] [] base0 .nil (E.c (E.c (E.c .nil)))⟩
  ·
   have hb4 := hb
   try simp only [hS, hE, ne_eq] at hb
   first | rw [if_pos hb4] at h | rw [if_neg (Bool.eq_false_iff.1 hb4)] at h | rw [if_pos hb] at h | rw [if_neg hb] at h | (simp only [hb, hT, reduceIte] at h) | skip
   refine AWp.exit ?_
   refine AWp.seq ?_
   refine AWp.region ?_
   refine L.Y Y.asg ?_
   refine AList.nil ?_
   obtain rfl := Option.some.inj h
   refine AWp.ret ?_
   exact ⟨.inr rfl, [(4, _)], _, ⟨rfl, rfl⟩, IsPart.at [] [] base0 .nil (E.c .nil)⟩

/-! ### laws_eqOrder: function 8 -/
def laws_eqOrder.f (k : Nat) (a0_0 : Int) (l0_1 : List Int) (a1_0 : Int) (l1_1 : List Int) : Option (Bool) := if a0_0 = a1_0 then ((laws_eqIntS.f k l0_1 l1_1).bind fun t396 => (if t396 = true then (some true) else (some false))) else (some false)
set_option maxRecDepth 100000 in
set_option maxHeartbeats 20000000 in
theorem laws_eqOrder.ac (k : Nat) (a0_0 : Int) (l0_1 : List Int) (a1_0 : Int) (l1_1 : List Int) (r : Bool) (h : laws_eqOrder.f k a0_0 l0_1 a1_0 l1_1 = some r) :
  ACalls Tryd.prog 8 [.agg [.lit (.int .i64 a0_0), .row 1 l0_1.length false (ints .i64 l0_1)], .agg [.lit (.int .i64 a1_0), .row 1 l1_1.length false (ints .i64 l1_1)]] [] (fun v H' => v = .lit (.bool r) ∧ H' = []) := by
 refine ACalls.ofP [4] Tryd.func8 rfl (by exact Nat.le_of_ble_eq_true rfl) rfl (by decide) ?_
 simp only [Tryd.ntmps8, env0, laws_eqOrder.f] at h ⊢
 refine AWp.seq ?_
 refine AWp.region ?_
 refine L.M M.bx ?_
 refine L.M M.bx ?_
 refine L.Y Y.asg ?_
 refine AList.nil ?_
 refine AWp.seq ?_
 refine AWp.seq ?_
 refine AWp.region ?_
 refine L.Y (Y.fa (off := 0) Tryd.underlying26 Y3) ?_
 refine L.S (S.ld Tryd.underlying3) ?_
 refine L.Y (Y.fa (off := 0) Tryd.underlying26 Y3) ?_
 refine L.S (S.ld Tryd.underlying3) ?_
 refine L.Y Y.bin ?_
 refine AList.nil ?_
 refine W.cond (fun hb => ?_) (fun hb => ?_)
 ·
  have hb1 := hb
  try simp only [hS, hE, ne_eq] at hb
  first | rw [if_pos hb1] at h | rw [if_neg (Bool.eq_false_iff.1 hb1)] at h | rw [if_pos hb] at h | rw [if_neg hb] at h | (simp only [hb, hT, reduceIte] at h) | skip
  refine AWp.seq ?_
  refine W.kp [0, 1, 2, 3, 4, 9] ?_
  refine AWp.region ?_
  refine L.Y Y.asg ?_
  refine AList.nil ?_
  obtain rfl := Option.some.inj h
  refine AWp.ret ?_
  exact ⟨.inr rfl, [(4, _)], _, ⟨rfl, rfl⟩, IsPart.at [] [] base0 .nil (E.c .nil)⟩
 ·
  have hb1 := hb
  try simp only [hS, hE, ne_eq] at hb
  first | rw [if_pos hb1] at h | rw [if_neg (Bool.eq_false_iff.1 hb1)] at h | rw [if_pos hb] at h | rw [if_neg hb] at h | (simp only [hb, hT, reduceIte] at h) | skip
  refine AWp.skip ?_
  refine AWp.seq ?_
  refine AWp.seq ?_
  refine W.kp [0, 1, 2, 3, 4, 9] ?_
  refine AWp.region ?_
  refine L.Y (Y.fa (off := 1) Tryd.underlying26 Y22) ?_
  refine L.S (S.ld Tryd.underlying22) ?_
  refine L.Y (Y.fa (off := 1) Tryd.underlying26 Y22) ?_
  refine L.S (S.ld Tryd.underlying22) ?_
  replace h := Option.bind_eq_some_iff.1 h
  obtain ⟨t396, hc2, h⟩ := h
  refine L.C (C.callE (l := true) [] Tryd.func22 (laws_eqIntS.ac _ _ _ _ hc2) .nil ?_)
  refine L.Y Y.nt ?_
  refine AList.nil ?_
  refine W.cond (fun hb => ?_) (fun hb => ?_)
  ·
   have hb3 := hb
   try simp only [hS, hE, ne_eq] at hb
   first | rw [if_pos hb3] at h | rw [if_neg (Bool.eq_false_iff.1 hb3)] at h | rw [if_pos hb] at h | rw [if_neg hb] at h | (simp only [hb, hT, reduceIte] at h) | skip
   refine AWp.seq ?_
   refine W.kp [0, 1, 2, 3, 4, 9, 15] ?_
   refine AWp.region ?_
   refine L.Y Y.asg ?_
   refine AList.nil ?_
   obtain rfl := Option.some.inj h
   refine AWp.ret ?_
   exact ⟨.inr rfl, [(4, _)], _, ⟨rfl, rfl⟩, IsPart.at [] [] base0 .nil (E.c .nil)⟩
  ·
   have hb3 := hb
   try simp only [hS, hE, ne_eq] at hb
   first | rw [if_pos hb3] at h | rw [if_neg (Bool.eq_false_iff.1 hb3)] at h | rw [if_pos hb] at h | rw [if_neg hb] at h | (simp only [hb, hT, reduceIte] at h) | skip
   refine AWp.skip ?_
   refine AWp.seq ?_
   refine W.kp [0, 1, 2, 3, 4, 9, 15] ?_
   refine AWp.region ?_
   refine L.Y Y.asg ?_
   refine AList.nil ?_
   obtain rfl := Option.some.inj h
   refine AWp.ret ?_
   exact ⟨.inr rfl, [(4, _)], _, ⟨rfl, rfl⟩, IsPart.at [] [] base0 .nil (E.c .nil)⟩

/-! ### laws_markIntS: function 23 -/
def laws_markIntS.l0 : Nat → List Int → Int → Int → Option (Int × List Int)
 | 0, _, _, _ => none
 | k + 1, x0, x1, x5 => if x5 < (x0.length : Int) then (if 0 ≤ x5 then (laws_markIntS.l0 k (x0.set (x5 : Int).toNat x1) (wrap64 (x1 + 1)) (wrap64 (x5 + 1))) else (none)) else (some (x1, x0))
def laws_markIntS.f (k : Nat) (l0 : List Int) (a1 : Int) : Option (Int × List Int) := laws_markIntS.l0 k l0 a1 0
theorem laws_markIntS.len_l : ∀ (k : Nat) (x0 : List Int) (x1 : Int) (x5 : Int) (r1 : Int) (r2 : List Int), laws_markIntS.l0 k x0 x1 x5 = some (r1, r2) → r2.length = x0.length := by
 intro k
 induction k with
 | zero => intro x0 x1 x5 r1 r2 h; simp [laws_markIntS.l0] at h
 | succ k ih =>
  intro x0 x1 x5 r1 r2 h
  simp only [laws_markIntS.l0] at h
  repeat' split at h
  all_goals first
   | (cases h; done)
   | (have := ih _ _ _ _ _ h; simpa only [List.length_set] using this)
   | (simp only [Option.some.injEq, Prod.mk.injEq] at h; obtain ⟨rfl, rfl⟩ := h; rfl)
theorem laws_markIntS.len (k : Nat) (l0 : List Int) (a1 : Int) (r1 : Int) (r2 : List Int) (h : laws_markIntS.f k l0 a1 = some (r1, r2)) : r2.length = l0.length := laws_markIntS.len_l _ _ _ _ _ _ h
set_option maxRecDepth 100000 in
set_option maxHeartbeats 20000000 in
theorem laws_markIntS.ac (k : Nat) (l0 : List Int) (a1 : Int) (r1 : Int) (r2 : List Int) (h : laws_markIntS.f k l0 a1 = some (r1, r2)) :
  ACalls Tryd.prog 23 [.own 0 l0.length, .lit (.int .i64 a1)] [.sl 3 1 l0.length false (ints .i64 l0)] (fun v H' => v = .lit (.int .i64 r1) ∧ H' = [.sl 3 1 r2.length false (ints .i64 r2)]) := by
 refine ACalls.ofP [4] Tryd.func23 rfl (by exact Nat.le_of_ble_eq_true rfl) rfl (by decide) ?_
 simp only [Tryd.ntmps23, env0, laws_markIntS.f] at h ⊢
 refine AWp.seq ?_
 refine AWp.region ?_
 refine L.Y Y.asg ?_
 refine AList.nil ?_
 refine AWp.seq ?_
 refine AWp.seq ?_
 refine AWp.region ?_
 refine L.Y Y.asg ?_
 refine AList.nil ?_
 refine AWp.block ?_
 refine AWp.loopI (fun kk e H => kk ≤ k ∧ ∃ (x0 : List Int) (x1 : Int) (x5 : Int), e = [(0, .own 0 x0.length), (1, .lit (.int .i64 x1)), (5, .lit (.int .i64 x5))] ∧ H = [.sl 3 1 x0.length false (ints .i64 x0)] ∧ laws_markIntS.l0 kk x0 x1 x5 = some (r1, r2)) (k := k)
  ⟨_, _, ⟨Nat.le_refl _, _, _, _, rfl, rfl, h⟩, IsPart.at [] [0] base1 (H.c .nil) (E.c (E.c (E.c .nil)))⟩ ?_
 clear h
 rintro k1 e H ⟨hk2, x0, x1, x5, rfl, rfl, h⟩
 cases k1 with
 | zero => exact absurd h (by simp [laws_markIntS.l0])
 | succ k1 =>
 simp only [laws_markIntS.l0] at h
 refine AWp.seq ?_
 refine AWp.seq ?_
 refine AWp.region ?_
 refine L.Y Y.mv ?_
 refine L.Y Y.mv ?_
 refine L.Y (Y.ln Tryd.underlying22) ?_
 refine L.Y Y.bin ?_
 refine AList.nil ?_
 refine W.cond (fun hb => ?_) (fun hb => ?_)
 ·
  have hb3 := hb
  try simp only [hS, hE, ne_eq] at hb
  first | rw [if_pos hb3] at h | rw [if_neg (Bool.eq_false_iff.1 hb3)] at h | rw [if_pos hb] at h | rw [if_neg hb] at h | (simp only [hb, hT, reduceIte] at h) | skip
  repeat (first | (rw [iN] at h; obtain ⟨_, h⟩ := h) | (rw [iP] at h; obtain ⟨_, h⟩ := h) | (simp only [bS] at h))
  refine AWp.skip ?_
  refine AWp.seq ?_
  refine AWp.block ?_
  refine AWp.seq ?_
  refine AWp.region ?_
  refine L.Y Y.mv ?_
  refine L.Y Y.mv ?_
  refine L.Y Y.mv ?_
  refine L.Y (Y.ixo Tryd.underlying22 Y3) ?_
  refine L.S (S.sts Y3) ?_
  refine AList.nil ?_
  refine W.kp [0, 1, 5, 9] ?_
  refine AWp.region ?_
  refine L.Y Y.mv ?_
  refine L.Y Y.bin ?_
  refine L.Y Y.asg ?_
  refine AList.nil ?_
  refine AWp.region ?_
  refine L.Y Y.mv ?_
  refine L.Y Y.bin ?_
  refine L.Y Y.asg ?_
  refine AList.nil ?_
  exact ⟨k1, by omega, _, _, ⟨by omega, _, _, _, rfl, rfl, h⟩, IsPart.at [] [0] base1 (H.c .nil) (E.c (E.c (E.c .nil)))⟩
 ·
  have hb3 := hb
  try simp only [hS, hE, ne_eq] at hb
  first | rw [if_pos hb3] at h | rw [if_neg (Bool.eq_false_iff.1 hb3)] at h | rw [if_pos hb] at h | rw [if_neg hb] at h | (simp only [hb, hT, reduceIte] at h) | skip
  refine AWp.exit ?_
  refine AWp.seq ?_
  refine AWp.region ?_
  refine L.Y Y.mv ?_
  refine L.Y Y.asg ?_
  refine AList.nil ?_
  simp only [Option.some.injEq, Prod.mk.injEq] at h
  obtain ⟨rfl, rfl⟩ := h
  refine AWp.ret ?_
  exact ⟨.inr rfl, [(4, _)], _, ⟨rfl, rfl⟩, IsPart.at [] [0] base1 (H.c .nil) (E.c .nil)⟩

end Go.Proofs.YtdaneldckdjjoaaDoor.PFnExactNearestOf
