-- Written by a program of this session's (wip/myprint2): the functions by the kit's print, the walks by awgen.py. Lean checks it.
import Derived.Test.YtakabmokpknknaaDoorPFnTablesTurnedx0
import Derived.Test.YtakabmokpknknaaDoorPFnTablesTurnedx4
import Derived.Test.YtakabmokpknknaaDoorPFnTablesTurnedx5
namespace Go.Proofs.YtakabmokpknknaaDoor.PFnTablesTurned
open Go.RowKit Go.Proofs.YtakabmokpknknaaDoorW.PrintWords Go.Proofs.YtakabmokpknknaaDoorW.PrintLast Go.Proofs.YtakabmokpknknaaDoorW.PrintMore Go.Proofs.YtakabmokpknknaaDoorM Go.Proofs.YtakabmokpknknaaDoorA Go.Proofs.YtakabmokpknknaaDoorT
attribute [local go_sem] max2_int min2_int max_two min_two max_three min_three max_four min_four   -- for this text's walks alone
set_option linter.unusedVariables false
set_option linter.unusedSimpArgs false

/-! ### spec_OppositeTable: function 44 -/
def spec_OppositeTable.l0 : Nat → List Int → Int → Int → Int → Int → List Int → Int → Int → List Int → Option (Int × Int × List Int × Bool)
 | 0, _, _, _, _, _, _, _, _, _ => none
 | k + 1, x17, x18, x19, x317000, x317001, x317002, x320000, x320001, x320002 => if x19 < x18 then (if 0 ≤ x19 then (if x19 < (x17.length : Int) then (if 0 ≤ x317001 then (if x320002.length < 17592186044416 then (spec_OppositeTable.l0 k x17 x18 (wrap64 (x19 + 1)) x317000 x317001 x317002 x320000 x320001 (x320002 ++ [Go.bits .andNot .i64 (wrap64 ((shl .i64 1 x317001) - 1)) (rd x17 x19)])) else (none)) else (none)) else (none)) else (none)) else (some (x320000, x320001, x320002, true))
def spec_OppositeTable.f (k : Nat) (a0_0 : Int) (a0_1 : Int) (l0_2 : List Int) : Option (Int × Int × List Int × Bool) := (spec_feGood.f k a0_0 a0_1 l0_2).bind fun t318 => (if t318 = true then (spec_OppositeTable.l0 k l0_2 (l0_2.length : Int) 0 a0_0 a0_1 l0_2 a0_0 a0_1 ([] : List Int)) else (some (0, 0, ([] : List Int), false)))
set_option maxRecDepth 100000 in
set_option maxHeartbeats 20000000 in
theorem spec_OppositeTable.ac (k : Nat) (a0_0 : Int) (a0_1 : Int) (l0_2 : List Int) (r1 : Int) (r2 : Int) (r3 : List Int) (r4 : Bool) (h : spec_OppositeTable.f k a0_0 a0_1 l0_2 = some (r1, r2, r3, r4)) :
  ACalls Tryd.prog 44 [.agg [.lit (.int .i64 a0_0), .lit (.int .i64 a0_1), .row 1 l0_2.length false (ints .i64 l0_2)]] [] (fun v H' => v = .tup [.agg [.lit (.int .i64 r1), .lit (.int .i64 r2), .own 0 r3.length], .lit (.bool r4)] ∧ H' = [.sl 3 1 r3.length false (ints .i64 r3)]) := by
 refine ACalls.ofV Tryd.func44 rfl (by exact Nat.le_of_ble_eq_true rfl) ?_
 simp only [Tryd.ntmps44, env0, spec_OppositeTable.f] at h ⊢
 refine AWp.seq ?_
 refine AWp.region ?_
 refine L.M M.bx ?_
 refine L.M (M.al Y59) ?_
 refine L.Y Y.asg ?_
 refine AList.nil ?_
 refine AWp.seq ?_
 refine AWp.seq ?_
 refine AWp.region ?_
 refine L.S (S.ldN Tryd.underlying59 Y59) ?_
 replace h := Option.bind_eq_some_iff.1 h
 obtain ⟨t318, hc1, h⟩ := h
 refine L.C (C.callE (l := true) [] Tryd.func108 (spec_feGood.ac _ _ _ _ _ hc1) .nil ?_)
 refine L.Y Y.nt ?_
 refine AList.nil ?_
 refine W.cond (fun hb => ?_) (fun hb => ?_)
 ·
  have hb2 := hb
  try simp only [hS, hE, ne_eq] at hb
  first | rw [if_pos hb2] at h | rw [if_neg (Bool.eq_false_iff.1 hb2)] at h | rw [if_pos hb] at h | rw [if_neg hb] at h | (simp only [hb, hT, reduceIte] at h) | skip
  refine AWp.seq ?_
  refine AWp.region ?_
  refine L.Y (Y.bd Tryd.underlying59 Y59 P59) ?_
  refine L.S (S.stb Y59) ?_
  refine L.Y Y.asg ?_
  refine AList.nil ?_
  simp only [Option.some.injEq, Prod.mk.injEq] at h
  obtain ⟨rfl, rfl, rfl, rfl⟩ := h
  refine AWp.ret ?_
  exact ⟨.inr rfl, _, _, _, Res.c2 Tryd.underlying59 Y59, ⟨rfl, rfl⟩, PartV.at [(3, 1)] [2] base0 (H.c .nil)⟩
 ·
  have hb2 := hb
  try simp only [hS, hE, ne_eq] at hb
  first | rw [if_pos hb2] at h | rw [if_neg (Bool.eq_false_iff.1 hb2)] at h | rw [if_pos hb] at h | rw [if_neg hb] at h | (simp only [hb, hT, reduceIte] at h) | skip
  refine AWp.skip ?_
  refine AWp.seq ?_
  refine AWp.region ?_
  refine L.Y (Y.fa (off := 0) Tryd.underlying59 Y3) ?_
  refine L.S (S.ld Tryd.underlying3) ?_
  refine L.Y (Y.fa (off := 1) Tryd.underlying59 Y3) ?_
  refine L.S (S.ld Tryd.underlying3) ?_
  refine L.Y (Y.bd Tryd.underlying59 Y59 P59) ?_
  refine L.M (M.al Y59) ?_
  refine L.S (S.stb Y59) ?_
  refine AList.nil ?_
  refine AWp.seq ?_
  refine AWp.seq ?_
  refine W.kp [0, 1, 2, 3, 4, 9] ?_
  refine AWp.region ?_
  refine L.Y (Y.fa (off := 2) Tryd.underlying59 Y22) ?_
  refine L.S (S.ld Tryd.underlying22) ?_
  refine L.Y (Y.ln Tryd.underlying22) ?_
  refine L.Y Y.mv ?_
  refine AList.nil ?_
  refine AWp.block ?_
  refine AWp.loopI (fun kk e H => kk ≤ k ∧ ∃ (x18 : Int) (x19 : Int) (x317000 : Int) (x317001 : Int) (x318000 : Int) (x318001 : Int) (x320000 : Int) (x320001 : Int) (x320002 : List Int), e = [(1, .ptr 0 0), (2, .ptr 1 0), (4, .ptr 2 0), (17, .row 1 l0_2.length false (ints .i64 l0_2)), (18, .lit (.int .i64 x18)), (19, .lit (.int .i64 x19))] ∧ H = [.bx 59 [.lit (.int .i64 x317000), .lit (.int .i64 x317001), .row 1 l0_2.length false (ints .i64 l0_2)], .bx 59 [.lit (.int .i64 x318000), .lit (.int .i64 x318001), .lit (.slice none 0 0)], .bx 59 [.lit (.int .i64 x320000), .lit (.int .i64 x320001), .own 3 x320002.length], .sl 3 1 x320002.length false (ints .i64 x320002)] ∧ spec_OppositeTable.l0 kk l0_2 x18 x19 x317000 x317001 l0_2 x320000 x320001 x320002 = some (r1, r2, r3, r4)) (k := k)
   ⟨_, _, ⟨Nat.le_refl _, _, _, _, _, _, _, _, _, _, rfl, rfl, h⟩, IsPart.at [(3, 1)] [0, 1, 2, 3] base0 (H.c (H.c (H.c (H.c .nil)))) (E.c (E.c (E.c (E.c (E.c (E.c .nil))))))⟩ ?_
  clear h
  rintro k3 e H ⟨hk4, x18, x19, x317000, x317001, x318000, x318001, x320000, x320001, x320002, rfl, rfl, h⟩
  cases k3 with
  | zero => exact absurd h (by simp [spec_OppositeTable.l0])
  | succ k3 =>
  simp only [spec_OppositeTable.l0] at h
  refine AWp.seq ?_
  refine AWp.region ?_
  refine L.Y Y.bin ?_
  refine AList.nil ?_
  refine AWp.seq ?_
  refine W.cond (fun hb => ?_) (fun hb => ?_)
  ·
   have hb5 := hb
   try simp only [hS, hE, ne_eq] at hb
   first | rw [if_pos hb5] at h | rw [if_neg (Bool.eq_false_iff.1 hb5)] at h | rw [if_pos hb] at h | rw [if_neg hb] at h | (simp only [hb, hT, reduceIte] at h) | skip
   repeat (first | (rw [iN] at h; obtain ⟨_, h⟩ := h) | (rw [iP] at h; obtain ⟨_, h⟩ := h) | (simp only [bS] at h))
   refine AWp.skip ?_
   refine AWp.seq ?_
   refine AWp.block ?_
   refine AWp.seq ?_
   refine AWp.region ?_
   refine L.Y (Y.ixr Tryd.underlying22 Y3) ?_
   refine L.S (S.ld Tryd.underlying3) ?_
   refine L.Y Y.asg ?_
   refine AList.nil ?_
   refine Dt.reg [] [9, 11] (.y 0 (.t 1 (.y 2 (.t 3 (.y 4 (.y 5 (.y 6 (.y 7 (.one 8 (.last 9 (.y 10 (.one 11 .done)))))))))))) HM ?_
   refine Dt.Y rfl wantN (Y.fa (off := 2) Tryd.underlying59 Y22) ?_
   refine Dt.T rfl wantN (D.ld Tryd.underlying22) ?_
   refine Dt.Y rfl wantN (Y.fa (off := 1) Tryd.underlying59 Y3) ?_
   refine Dt.T rfl wantN (D.ld Tryd.underlying3) ?_
   refine Dt.Y rfl wantN Y.bin ?_
   refine Dt.Y rfl wantN Y.bin ?_
   refine Dt.Y rfl wantN Y.mv ?_
   refine Dt.Y rfl wantN Y.bin ?_
   refine Dt.O (g' := false) rfl wantN ?_
   refine Ox.M (M.bs Tryd.underlying22 Y3) ?_
   refine Dt.L rfl wantN ?_
   refine Op.S (S.ap (nn' := false) Tryd.underlying22 Y3) ?_
   refine Du.Y rfl wantN (Y.fa (off := 2) Tryd.underlying59 Y22) ?_
   refine Du.L rfl wantN ?_
   refine Op.S (S.stb Y22) ?_
   refine Du.nil ?_
   refine W.kp [1, 2, 4, 6, 17, 18, 19, 20] ?_
   refine AWp.region ?_
   refine L.Y Y.bin ?_
   refine L.Y Y.mv ?_
   refine AList.nil ?_
   exact ⟨k3, by omega, _, _, ⟨by omega, _, _, _, _, _, _, _, _, _, rfl, rfl, h⟩, IsPart.at [] [0, 1, 2, 3] base0 (H.c (H.c (H.c (H.c .nil)))) (E.c (E.c (E.c (E.c (E.c (E.c .nil))))))⟩
  ·
   have hb5 := hb
   try simp only [hS, hE, ne_eq] at hb
   first | rw [if_pos hb5] at h | rw [if_neg (Bool.eq_false_iff.1 hb5)] at h | rw [if_pos hb] at h | rw [if_neg hb] at h | (simp only [hb, hT, reduceIte] at h) | skip
   refine AWp.exit ?_
   refine AWp.seq ?_
   refine AWp.region ?_
   refine L.S (S.ldN Tryd.underlying59 Y59) ?_
   refine L.S (S.stb Y59) ?_
   refine L.Y Y.asg ?_
   refine AList.nil ?_
   simp only [Option.some.injEq, Prod.mk.injEq] at h
   obtain ⟨rfl, rfl, rfl, rfl⟩ := h
   refine AWp.ret ?_
   exact ⟨.inr rfl, _, _, _, Res.c2 Tryd.underlying59 Y59, ⟨rfl, rfl⟩, PartV.at [] [3] base0 (H.c .nil)⟩

-- NOT PRINTED: function 250 (abi_NoEscape)

-- NOT PRINTED: function 228 (strings_Builder_copyCheck)

-- NOT PRINTED: function 251 (bytealg_MakeNoZero)

-- NOT PRINTED: function 229 (strings_Builder_grow)

-- NOT PRINTED: function 203 (strings_Builder_Grow)

-- NOT PRINTED: function 204 (strings_Builder_WriteString)

-- NOT PRINTED: function 205 (strings_Builder_String)

/-! ### strings_Join: function 167 -/
def strings_Join.ren : Go.Shelf.Ren := ⟨fun | 156 => 167 | 165 => 203 | 166 => 204 | 169 => 205 | 240 => 228 | 241 => 229 | 276 => 250 | 277 => 251 | n => n, fun | 31 => 124 | 9 => 9 | 3 => 3 | 4 => 4 | 0 => 0 | 20 => 20 | 72 => 165 | 76 => 169 | 70 => 163 | 37 => 33 | 75 => 168 | 127 => 184 | 164 => 198 | 5 => 5 | 80 => 171 | n => n, fun | n => n⟩
theorem strings_Join.lays : Go.Proofs.Lays.n156 Tryd.prog strings_Join.ren := {
 mixed := by kernel_rfl
 f156 := Tryd.func167.trans (congrArg some (by kernel_rfl))
 f165 := Tryd.func203.trans (congrArg some (by kernel_rfl))
 f166 := Tryd.func204.trans (congrArg some (by kernel_rfl))
 f169 := Tryd.func205.trans (congrArg some (by kernel_rfl))
 f240 := Tryd.func228.trans (congrArg some (by kernel_rfl))
 f241 := Tryd.func229.trans (congrArg some (by kernel_rfl))
 f276 := Tryd.func250.trans (congrArg some (by kernel_rfl))
 f277 := Tryd.func251.trans (congrArg some (by kernel_rfl))
 t0 := Tryd.underlying0
 a0 := Tryd.isAgg0
 z0 := Tryd.sizeOf0
 v0 := Tryd.zeroValue0
 t3 := Tryd.underlying3
 a3 := Tryd.isAgg3
 z3 := Tryd.sizeOf3
 v3 := Tryd.zeroValue3
 t4 := Tryd.underlying4
 a4 := Tryd.isAgg4
 z4 := Tryd.sizeOf4
 v4 := Tryd.zeroValue4
 t9 := Tryd.underlying9
 a9 := Tryd.isAgg9
 z9 := Tryd.sizeOf9
 v9 := Tryd.zeroValue9
 t20 := Tryd.underlying20
 a20 := Tryd.isAgg20
 z20 := Tryd.sizeOf20
 v20 := Tryd.zeroValue20
 t31 := Tryd.underlying124
 a31 := Tryd.isAgg124
 z31 := Tryd.sizeOf124
 v31 := Tryd.zeroValue124
 t37 := Tryd.underlying33
 a37 := Tryd.isAgg33
 z37 := Tryd.sizeOf33
 v37 := Tryd.zeroValue33
 t70 := Tryd.underlying163
 a70 := Tryd.isAgg163
 z70 := Tryd.sizeOf163
 v70 := Tryd.zeroValue163
 t72 := Tryd.underlying165
 a72 := Tryd.isAgg165
 z72 := Tryd.sizeOf165
 v72 := Tryd.zeroValue165
 t75 := Tryd.underlying168
 a75 := Tryd.isAgg168
 z75 := Tryd.sizeOf168
 v75 := Tryd.zeroValue168
 t76 := Tryd.underlying169
 a76 := Tryd.isAgg169
 z76 := Tryd.sizeOf169
 v76 := Tryd.zeroValue169
 t127 := Tryd.underlying184
 a127 := Tryd.isAgg184
 z127 := Tryd.sizeOf184
 v127 := Tryd.zeroValue184
 t164 := Tryd.underlying198
 a164 := Tryd.isAgg198
 z164 := Tryd.sizeOf198
 v164 := Tryd.zeroValue198 }
theorem strings_Join.extra : Go.Proofs.Builder.Extra Tryd.prog strings_Join.ren := {
 sizeBuilder := by kernel_rfl
 liesBuilder := by kernel_rfl
 t5 := Tryd.underlying5
 a5 := Tryd.isAgg5
 z5 := Tryd.sizeOf5
 v5 := Tryd.zeroValue5
 infoByte := by kernel_rfl
 cellsByte := by kernel_rfl
 sizeByte := by kernel_rfl
 neB5 := by decide }
def strings_Join.f (l0 : List ByteArray) (a1 : ByteArray) : Option (ByteArray) := if l0.length ≤ 140737488355328 ∧ (Lib.join (l0.map (·.data.toList)) a1.data.toList).length ≤ 140737488355328 then some ⟨(Lib.join (l0.map (·.data.toList)) a1.data.toList).toArray⟩ else none
theorem strings_Join.ac (l0 : List ByteArray) (a1 : ByteArray) (r : ByteArray) (h : strings_Join.f l0 a1 = some r) : ACalls Tryd.prog 167 [.row 1 l0.length false (Enc.cells l0), .lit (.string a1)] [] (fun v H' => v = .lit (.string r) ∧ H' = []) := by
 unfold strings_Join.f at h
 by_cases hb : l0.length ≤ 140737488355328 ∧ (Lib.join (l0.map (·.data.toList)) a1.data.toList).length ≤ 140737488355328
 ·
  rw [if_pos hb] at h
  injection h with h
  subst h
  intro R F A w vs hi hvs
  match vs, hvs with
  | [], hvs => simp [VRs] at hvs
  | [_], hvs => simp [VRs] at hvs
  | [c, d], hvs =>
   simp only [VRs, and_true] at hvs
   obtain ⟨hc, hd⟩ := hvs
   simp only [VR] at hd
   subst hd
   have none_ : ∀ (p : Option Addr) (cap : Nat), l0 = [] → Calls Tryd.prog 167 #[.slice p 0 cap, .string a1] w (CallPost (fun v H' => v = .lit (.string ⟨(Lib.join (l0.map (·.data.toList)) a1.data.toList).toArray⟩) ∧ H' = []) R F A [] w) := by
    intro p cap h0
    subst h0
    refine (Any.strings_Join_none strings_Join.lays strings_Join.extra p cap a1 w).mono ?_
    rintro e w' ⟨rfl, rfl⟩
    exact CallPost.below hi rfl (Below.refl _ _)
   rcases VR.strs_cells hc with ⟨rfl, h0⟩ | ⟨p, cap, rfl, hcap, hcell⟩
   ·
    exact none_ none 0 h0
   ·
    by_cases hp : 0 < l0.length
    ·
     obtain ⟨b, off, rfl, _, hcc⟩ := hcell hp
     have h1 : w.cell? ⟨b, off + 0, none⟩ = some (.string l0[0]) := hcc 0 l0[0] (List.getElem?_eq_getElem hp)
     rw [Nat.add_zero] at h1
     refine (Any.strings_Join strings_Join.lays strings_Join.extra b off cap l0 a1 w hcc (World.block_lt_of_cell? _ _ h1) hb.1 hcap hb.2).mono ?_
     rintro e w' ⟨rfl, hbl⟩
     exact CallPost.below hi rfl hbl
    ·
     have h0 : l0 = [] := List.eq_nil_of_length_eq_zero (by omega)
     have := none_ (some p) cap h0
     rw [h0] at this ⊢
     exact this
  | _ :: _ :: _ :: _, hvs => simp [VRs] at hvs
 ·
  rw [if_neg hb] at h
  cases h

/-! ### impl_tableText: function 118 -/
mutual
def impl_tableText.l0 : Nat → List ByteArray → Int → Int → Int → Int → List Int → Option (ByteArray)
 | 0, _, _, _, _, _, _ => none
 | k + 1, x3, x9, x10, x325000, x325001, x325002 => if x10 < x9 then (impl_tableText.l1 k x3 x10 (⟨#[]⟩ : ByteArray) x9 x10 x325001 0 x325000 x325001 x325002) else ((strings_Join.f x3 (⟨#[47]⟩ : ByteArray)).bind fun t328 => (some t328))
def impl_tableText.l1 : Nat → List ByteArray → Int → ByteArray → Int → Int → Int → Int → Int → Int → List Int → Option (ByteArray)
 | 0, _, _, _, _, _, _, _, _, _, _ => none
 | k + 1, x3, x4, x5, x9, x10, x14, x15, x325000, x325001, x325002 => if x15 < x14 then ((impl_Table_marked.f x325000 x325001 x325002 x4 x15).bind fun t329 => (if t329 = true then (if x5.size + 1 ≤ 9223372036854775807 then (impl_tableText.l1 k x3 x4 (x5 ++ (⟨#[49]⟩ : ByteArray)) x9 x10 x14 (wrap64 (x15 + 1)) x325000 x325001 x325002) else (none)) else (if x5.size + 1 ≤ 9223372036854775807 then (impl_tableText.l1 k x3 x4 (x5 ++ (⟨#[48]⟩ : ByteArray)) x9 x10 x14 (wrap64 (x15 + 1)) x325000 x325001 x325002) else (none)))) else (if x3.length < 8796093022208 then (impl_tableText.l0 k (x3 ++ [x5]) x9 (wrap64 (x10 + 1)) x325000 x325001 x325002) else (none))
end
def impl_tableText.f (k : Nat) (a0_0 : Int) (a0_1 : Int) (l0_2 : List Int) : Option (ByteArray) := impl_tableText.l0 k (([] : List ByteArray)) a0_0 0 a0_0 a0_1 l0_2
set_option maxRecDepth 100000 in
set_option maxHeartbeats 20000000 in
theorem impl_tableText.ac (k : Nat) (a0_0 : Int) (a0_1 : Int) (l0_2 : List Int) (r : ByteArray) (h : impl_tableText.f k a0_0 a0_1 l0_2 = some r) :
  ACalls Tryd.prog 118 [.agg [.lit (.int .i64 a0_0), .lit (.int .i64 a0_1), .row 1 l0_2.length false (ints .i64 l0_2)]] [] (fun v H' => v = .lit (.string r) ∧ H' = []) := by
 refine ACalls.ofP [2] Tryd.func118 rfl (by exact Nat.le_of_ble_eq_true rfl) rfl (by decide) ?_
 simp only [Tryd.ntmps118, env0, impl_tableText.f] at h ⊢
 repeat (first | (rw [iN] at h; obtain ⟨_, h⟩ := h) | (rw [iP] at h; obtain ⟨_, h⟩ := h) | (simp only [bS] at h))
 refine AWp.seq ?_
 refine AWp.region ?_
 refine L.M M.bx ?_
 refine L.Y Y.asg ?_
 refine AList.nil ?_
 refine AWp.seq ?_
 refine AWp.region ?_
 refine L.M (M.bsT ([] : List ByteArray) Tryd.underlying124 Y9) ?_
 refine L.Y Y.asg ?_
 refine AList.nil ?_
 refine AWp.seq ?_
 refine AWp.seq ?_
 refine AWp.region ?_
 refine L.Y (Y.fa (off := 0) Tryd.underlying59 Y3) ?_
 refine L.S (S.ld Tryd.underlying3) ?_
 refine L.Y Y.mv ?_
 refine AList.nil ?_
 refine AWp.block ?_
 refine AWp.loopI (fun kk e H => kk ≤ k ∧ ∃ (x3 : List ByteArray) (x9 : Int) (x10 : Int) (x325000 : Int) (x325001 : Int), e = [(1, .ptr 0 0), (3, .own 1 x3.length), (9, .lit (.int .i64 x9)), (10, .lit (.int .i64 x10))] ∧ H = [.bx 59 [.lit (.int .i64 x325000), .lit (.int .i64 x325001), .row 1 l0_2.length false (ints .i64 l0_2)], .sl 9 1 x3.length true (Enc.cells x3)] ∧ impl_tableText.l0 kk x3 x9 x10 x325000 x325001 l0_2 = some r) (k := k)
  ⟨_, _, ⟨Nat.le_refl _, _, _, _, _, _, rfl, rfl, h⟩, IsPart.at [] [0, 1] base0 (H.c (H.c .nil)) (E.c (E.c (E.c (E.c .nil))))⟩ ?_
 clear h
 rintro k1 e H ⟨hk2, x3, x9, x10, x325000, x325001, rfl, rfl, h⟩
 cases k1 with
 | zero => exact absurd h (by simp [impl_tableText.l0])
 | succ k1 =>
 simp only [impl_tableText.l0] at h
 refine AWp.seq ?_
 refine AWp.region ?_
 refine L.Y Y.bin ?_
 refine AList.nil ?_
 refine AWp.seq ?_
 refine W.cond (fun hb => ?_) (fun hb => ?_)
 ·
  have hb3 := hb
  try simp only [hS, hE, ne_eq] at hb
  first | rw [if_pos hb3] at h | rw [if_neg (Bool.eq_false_iff.1 hb3)] at h | rw [if_pos hb] at h | rw [if_neg hb] at h | (simp only [hb, hT, reduceIte] at h) | skip
  refine AWp.skip ?_
  refine AWp.seq ?_
  refine AWp.block ?_
  refine AWp.seq ?_
  refine AWp.region ?_
  refine L.Y Y.mv ?_
  refine L.Y Y.asg ?_
  refine AList.nil ?_
  refine AWp.seq ?_
  refine AWp.region ?_
  refine L.Y Y.asg ?_
  refine AList.nil ?_
  refine AWp.seq ?_
  refine AWp.seq ?_
  refine AWp.region ?_
  refine L.Y (Y.fa (off := 1) Tryd.underlying59 Y3) ?_
  refine L.S (S.ld Tryd.underlying3) ?_
  refine L.Y Y.mv ?_
  refine AList.nil ?_
  refine AWp.block ?_
  refine AWp.loopI (fun kk e H => kk ≤ k1 ∧ ∃ (x3 : List ByteArray) (x4 : Int) (x5 : ByteArray) (x9 : Int) (x10 : Int) (x14 : Int) (x15 : Int) (x325000 : Int) (x325001 : Int), e = [(1, .ptr 0 0), (3, .own 1 x3.length), (4, .lit (.int .i64 x4)), (5, .lit (.string x5)), (9, .lit (.int .i64 x9)), (10, .lit (.int .i64 x10)), (14, .lit (.int .i64 x14)), (15, .lit (.int .i64 x15))] ∧ H = [.bx 59 [.lit (.int .i64 x325000), .lit (.int .i64 x325001), .row 1 l0_2.length false (ints .i64 l0_2)], .sl 9 1 x3.length true (Enc.cells x3)] ∧ impl_tableText.l1 kk x3 x4 x5 x9 x10 x14 x15 x325000 x325001 l0_2 = some r) (k := k1)
   ⟨_, _, ⟨Nat.le_refl _, _, _, _, _, _, _, _, _, _, rfl, rfl, h⟩, IsPart.at [] [0, 1] base0 (H.c (H.c .nil)) (E.c (E.c (E.c (E.c (E.c (E.c (E.c (E.c .nil))))))))⟩ ?_
  clear h
  rintro k4 e H ⟨hk5, x3, x4, x5, x9, x10, x14, x15, x325000, x325001, rfl, rfl, h⟩
  cases k4 with
  | zero => exact absurd h (by simp [impl_tableText.l1])
  | succ k4 =>
  simp only [impl_tableText.l1] at h
  refine AWp.seq ?_
  refine AWp.region ?_
  refine L.Y Y.bin ?_
  refine AList.nil ?_
  refine AWp.seq ?_
  refine W.cond (fun hb => ?_) (fun hb => ?_)
  ·
   have hb6 := hb
   try simp only [hS, hE, ne_eq] at hb
   first | rw [if_pos hb6] at h | rw [if_neg (Bool.eq_false_iff.1 hb6)] at h | rw [if_pos hb] at h | rw [if_neg hb] at h | (simp only [hb, hT, reduceIte] at h) | skip
   refine AWp.skip ?_
   refine AWp.seq ?_
   refine AWp.block ?_
   refine AWp.seq ?_
   refine AWp.region ?_
   refine L.Y Y.mv ?_
   refine L.Y Y.asg ?_
   refine AList.nil ?_
   refine AWp.seq ?_
   refine AWp.region ?_
   refine L.S (S.ldN Tryd.underlying59 Y59) ?_
   refine L.Y Y.mv ?_
   refine L.Y Y.mv ?_
   replace h := Option.bind_eq_some_iff.1 h
   obtain ⟨t329, hc7, h⟩ := h
   refine L.C (C.callE (l := true) [] Tryd.func111 (impl_Table_marked.ac _ _ _ _ _ _ hc7) .nil ?_)
   refine AList.nil ?_
   refine W.cond (fun hb => ?_) (fun hb => ?_)
   ·
    have hb8 := hb
    try simp only [hS, hE, ne_eq] at hb
    first | rw [if_pos hb8] at h | rw [if_neg (Bool.eq_false_iff.1 hb8)] at h | rw [if_pos hb] at h | rw [if_neg hb] at h | (simp only [hb, hT, reduceIte] at h) | skip
    repeat (first | (rw [iN] at h; obtain ⟨_, h⟩ := h) | (rw [iP] at h; obtain ⟨_, h⟩ := h) | (simp only [bS] at h))
    refine W.kp [1, 3, 4, 5, 6, 9, 10, 14, 15, 16, 21] ?_
    refine AWp.region ?_
    refine L.Y Y.mv ?_
    refine L.Y Y.bin ?_
    refine L.Y Y.asg ?_
    refine AList.nil ?_
    refine AWp.region ?_
    refine L.Y Y.bin ?_
    refine L.Y Y.mv ?_
    refine AList.nil ?_
    exact ⟨k4, by omega, _, _, ⟨by omega, _, _, _, _, _, _, _, _, _, rfl, rfl, h⟩, IsPart.at [] [0, 1] base0 (H.c (H.c .nil)) (E.c (E.c (E.c (E.c (E.c (E.c (E.c (E.c .nil))))))))⟩
   ·
    have hb8 := hb
    try simp only [hS, hE, ne_eq] at hb
    first | rw [if_pos hb8] at h | rw [if_neg (Bool.eq_false_iff.1 hb8)] at h | rw [if_pos hb] at h | rw [if_neg hb] at h | (simp only [hb, hT, reduceIte] at h) | skip
    repeat (first | (rw [iN] at h; obtain ⟨_, h⟩ := h) | (rw [iP] at h; obtain ⟨_, h⟩ := h) | (simp only [bS] at h))
    refine W.kp [1, 3, 4, 5, 6, 9, 10, 14, 15, 16, 21] ?_
    refine AWp.region ?_
    refine L.Y Y.mv ?_
    refine L.Y Y.bin ?_
    refine L.Y Y.asg ?_
    refine AList.nil ?_
    refine AWp.region ?_
    refine L.Y Y.bin ?_
    refine L.Y Y.mv ?_
    refine AList.nil ?_
    exact ⟨k4, by omega, _, _, ⟨by omega, _, _, _, _, _, _, _, _, _, rfl, rfl, h⟩, IsPart.at [] [0, 1] base0 (H.c (H.c .nil)) (E.c (E.c (E.c (E.c (E.c (E.c (E.c (E.c .nil))))))))⟩
  ·
   have hb6 := hb
   try simp only [hS, hE, ne_eq] at hb
   first | rw [if_pos hb6] at h | rw [if_neg (Bool.eq_false_iff.1 hb6)] at h | rw [if_pos hb] at h | rw [if_neg hb] at h | (simp only [hb, hT, reduceIte] at h) | skip
   repeat (first | (rw [iN] at h; obtain ⟨_, h⟩ := h) | (rw [iP] at h; obtain ⟨_, h⟩ := h) | (simp only [bS] at h))
   refine AWp.exit ?_
   refine AWp.region ?_
   refine L.Y Y.mv ?_
   refine L.Y Y.mv ?_
   refine L.M (M.bsT ([(_ : ByteArray)] : List ByteArray) Tryd.underlying124 Y9) ?_
   refine L.S (S.ap (nn' := true) Tryd.underlying124 Y9) ?_
   refine L.Y Y.asg ?_
   refine AList.nil ?_
   refine W.kp [1, 3, 4, 5, 9, 10, 14, 15, 16] ?_
   refine AWp.region ?_
   refine L.Y Y.bin ?_
   refine L.Y Y.mv ?_
   refine AList.nil ?_
   exact ⟨k4, by omega, _, _, ⟨by omega, _, _, _, _, _, rfl, rfl, h⟩, IsPart.at [] [0, 1] base0 (H.c (H.c .nil)) (E.c (E.c (E.c (E.c .nil))))⟩
 ·
  have hb3 := hb
  try simp only [hS, hE, ne_eq] at hb
  first | rw [if_pos hb3] at h | rw [if_neg (Bool.eq_false_iff.1 hb3)] at h | rw [if_pos hb] at h | rw [if_neg hb] at h | (simp only [hb, hT, reduceIte] at h) | skip
  refine AWp.exit ?_
  refine AWp.seq ?_
  refine AWp.region ?_
  refine L.Y Y.mv ?_
  replace h := Option.bind_eq_some_iff.1 h
  obtain ⟨t328, hc9, h⟩ := h
  refine L.C (C.callE (l := true) [] Tryd.func167 (strings_Join.ac _ _ _ hc9) .nil ?_)
  refine L.Y Y.asg ?_
  refine AList.nil ?_
  obtain rfl := Option.some.inj h
  refine AWp.ret ?_
  exact ⟨.inr rfl, [(2, _)], _, ⟨rfl, rfl⟩, IsPart.at [] [] base0 .nil (E.c .nil)⟩

/-! ### impl_TableText: function 46 -/
def impl_TableText.f (k : Nat) (a0_0 : Int) (a0_1 : Int) (l0_2 : List Int) : Option (ByteArray × Bool) := (impl_IsTable.f k a0_0 a0_1 l0_2).bind fun t334 => (if t334 = true then ((impl_tableText.f k a0_0 a0_1 l0_2).bind fun t335 => (some (t335, true))) else (some ((⟨#[]⟩ : ByteArray), false)))
set_option maxRecDepth 100000 in
set_option maxHeartbeats 20000000 in
theorem impl_TableText.ac (k : Nat) (a0_0 : Int) (a0_1 : Int) (l0_2 : List Int) (r1 : ByteArray) (r2 : Bool) (h : impl_TableText.f k a0_0 a0_1 l0_2 = some (r1, r2)) :
  ACalls Tryd.prog 46 [.agg [.lit (.int .i64 a0_0), .lit (.int .i64 a0_1), .row 1 l0_2.length false (ints .i64 l0_2)]] [] (fun v H' => v = .tup [.lit (.string r1), .lit (.bool r2)] ∧ H' = []) := by
 refine ACalls.ofP [2, 3] Tryd.func46 rfl (by exact Nat.le_of_ble_eq_true rfl) rfl (by decide) ?_
 simp only [Tryd.ntmps46, env0, impl_TableText.f] at h ⊢
 refine AWp.seq ?_
 refine AWp.region ?_
 refine L.M M.bx ?_
 refine L.Y Y.asg ?_
 refine L.Y Y.asg ?_
 refine AList.nil ?_
 refine AWp.seq ?_
 refine AWp.seq ?_
 refine AWp.region ?_
 refine L.S (S.ldN Tryd.underlying59 Y59) ?_
 replace h := Option.bind_eq_some_iff.1 h
 obtain ⟨t334, hc1, h⟩ := h
 refine L.C (C.callE (l := true) [] Tryd.func45 (impl_IsTable.ac _ _ _ _ _ hc1) .nil ?_)
 refine L.Y Y.nt ?_
 refine AList.nil ?_
 refine W.cond (fun hb => ?_) (fun hb => ?_)
 ·
  have hb2 := hb
  try simp only [hS, hE, ne_eq] at hb
  first | rw [if_pos hb2] at h | rw [if_neg (Bool.eq_false_iff.1 hb2)] at h | rw [if_pos hb] at h | rw [if_neg hb] at h | (simp only [hb, hT, reduceIte] at h) | skip
  refine AWp.seq ?_
  refine AWp.region ?_
  refine L.Y Y.asg ?_
  refine L.Y Y.asg ?_
  refine AList.nil ?_
  simp only [Option.some.injEq, Prod.mk.injEq] at h
  obtain ⟨rfl, rfl⟩ := h
  refine AWp.ret ?_
  exact ⟨.inr rfl, [(2, _), (3, _)], _, ⟨rfl, rfl⟩, IsPart.at [] [] base0 .nil (E.c (E.c .nil))⟩
 ·
  have hb2 := hb
  try simp only [hS, hE, ne_eq] at hb
  first | rw [if_pos hb2] at h | rw [if_neg (Bool.eq_false_iff.1 hb2)] at h | rw [if_pos hb] at h | rw [if_neg hb] at h | (simp only [hb, hT, reduceIte] at h) | skip
  refine AWp.skip ?_
  refine AWp.seq ?_
  refine AWp.region ?_
  refine L.S (S.ldN Tryd.underlying59 Y59) ?_
  replace h := Option.bind_eq_some_iff.1 h
  obtain ⟨t335, hc3, h⟩ := h
  refine L.C (C.callE (l := true) [] Tryd.func118 (impl_tableText.ac _ _ _ _ _ hc3) .nil ?_)
  refine L.Y Y.asg ?_
  refine L.Y Y.asg ?_
  refine AList.nil ?_
  simp only [Option.some.injEq, Prod.mk.injEq] at h
  obtain ⟨rfl, rfl⟩ := h
  refine AWp.ret ?_
  exact ⟨.inr rfl, [(2, _), (3, _)], _, ⟨rfl, rfl⟩, IsPart.at [] [] base0 .nil (E.c (E.c .nil))⟩

-- NOT PRINTED: function 230 (utf8_RuneCountInString)

-- NOT PRINTED: function 252 (utf8_decodeRuneInStringSlow)

-- NOT PRINTED: function 231 (utf8_DecodeRuneInString)

-- NOT PRINTED: function 206 (strings_explode)

-- NOT PRINTED: function 268 (bytealg_IndexByteString)

-- NOT PRINTED: function 253 (stringslite_IndexByte)

-- NOT PRINTED: function 254 (bytealg_IndexString)

-- NOT PRINTED: function 255 (bytealg_Cutover)

-- NOT PRINTED: function 269 (bytealg_hashStr_string)

-- NOT PRINTED: function 256 (bytealg_IndexRabinKarp_string)

-- NOT PRINTED: function 233 (stringslite_Index)

-- NOT PRINTED: function 208 (strings_Index)

-- NOT PRINTED: function 232 (bytealg_CountString)

-- NOT PRINTED: function 207 (strings_Count)

-- NOT PRINTED: function 168 (strings_genSplit)

/-! ### strings_Split: function 119 -/
def strings_Split.ren : Go.Shelf.Ren := ⟨fun | 146 => 119 | 221 => 168 | 268 => 206 | 138 => 207 | 143 => 208 | 195 => 230 | 197 => 231 | 218 => 232 | 219 => 233 | 260 => 252 | 217 => 253 | 225 => 254 | 224 => 255 | 267 => 256 | 266 => 268 | 314 => 269 | n => n, fun | 9 => 9 | 31 => 124 | 3 => 3 | 4 => 4 | 0 => 0 | 105 => 186 | 21 => 21 | 5 => 5 | 46 => 147 | 119 => 205 | 139 => 208 | 138 => 207 | 146 => 209 | 51 => 161 | n => n, fun | 1 => 2 | 3 => 3 | 4 => 4 | n => n⟩
theorem strings_Split.lays : Go.Proofs.Lays.n146 Tryd.prog strings_Split.ren := {
 mixed := by kernel_rfl
 f138 := Tryd.func207.trans (congrArg some (by kernel_rfl))
 f143 := Tryd.func208.trans (congrArg some (by kernel_rfl))
 f146 := Tryd.func119.trans (congrArg some (by kernel_rfl))
 f195 := Tryd.func230.trans (congrArg some (by kernel_rfl))
 f197 := Tryd.func231.trans (congrArg some (by kernel_rfl))
 f217 := Tryd.func253.trans (congrArg some (by kernel_rfl))
 f218 := Tryd.func232.trans (congrArg some (by kernel_rfl))
 f219 := Tryd.func233.trans (congrArg some (by kernel_rfl))
 f221 := Tryd.func168.trans (congrArg some (by kernel_rfl))
 f224 := Tryd.func255.trans (congrArg some (by kernel_rfl))
 f225 := Tryd.func254.trans (congrArg some (by kernel_rfl))
 f260 := Tryd.func252.trans (congrArg some (by kernel_rfl))
 f266 := Tryd.func268.trans (congrArg some (by kernel_rfl))
 f267 := Tryd.func256.trans (congrArg some (by kernel_rfl))
 f268 := Tryd.func206.trans (congrArg some (by kernel_rfl))
 f314 := Tryd.func269.trans (congrArg some (by kernel_rfl))
 t0 := Tryd.underlying0
 a0 := Tryd.isAgg0
 z0 := Tryd.sizeOf0
 v0 := Tryd.zeroValue0
 t3 := Tryd.underlying3
 a3 := Tryd.isAgg3
 z3 := Tryd.sizeOf3
 v3 := Tryd.zeroValue3
 t4 := Tryd.underlying4
 a4 := Tryd.isAgg4
 z4 := Tryd.sizeOf4
 v4 := Tryd.zeroValue4
 t5 := Tryd.underlying5
 a5 := Tryd.isAgg5
 z5 := Tryd.sizeOf5
 v5 := Tryd.zeroValue5
 t9 := Tryd.underlying9
 a9 := Tryd.isAgg9
 z9 := Tryd.sizeOf9
 v9 := Tryd.zeroValue9
 t21 := Tryd.underlying21
 a21 := Tryd.isAgg21
 z21 := Tryd.sizeOf21
 v21 := Tryd.zeroValue21
 t31 := Tryd.underlying124
 a31 := Tryd.isAgg124
 z31 := Tryd.sizeOf124
 v31 := Tryd.zeroValue124
 t46 := Tryd.underlying147
 a46 := Tryd.isAgg147
 z46 := Tryd.sizeOf147
 v46 := Tryd.zeroValue147
 t51 := Tryd.underlying161
 a51 := Tryd.isAgg161
 z51 := Tryd.sizeOf161
 v51 := Tryd.zeroValue161
 t105 := Tryd.underlying186
 a105 := Tryd.isAgg186
 z105 := Tryd.sizeOf186
 v105 := Tryd.zeroValue186
 t119 := Tryd.underlying205
 a119 := Tryd.isAgg205
 z119 := Tryd.sizeOf205
 t138 := Tryd.underlying207
 a138 := Tryd.isAgg207
 z138 := Tryd.sizeOf207
 v138 := Tryd.zeroValue207
 t139 := Tryd.underlying208
 a139 := Tryd.isAgg208
 z139 := Tryd.sizeOf208
 v139 := Tryd.zeroValue208
 t146 := Tryd.underlying209
 a146 := Tryd.isAgg209
 z146 := Tryd.sizeOf209
 v146 := Tryd.zeroValue209
 g1 := by kernel_rfl
 g3 := by kernel_rfl
 g4 := by kernel_rfl }
def strings_Split.f (a0 a1 : ByteArray) : Option (List ByteArray) := if a0.size < 4294967281 ∧ 1 ≤ a1.size then some (Lib.splitB a1 0 (Lib.countB a0 a1) a0) else none
theorem strings_Split.ac (a0 a1 : ByteArray) (r : List ByteArray) (h : strings_Split.f a0 a1 = some r) : ACalls Tryd.prog 119 [.lit (.string a0), .lit (.string a1)] [] (fun v H' => v = .own 0 r.length ∧ H' = [.sl 9 1 r.length false (Enc.cells r)]) := by
 unfold strings_Split.f at h
 by_cases hb : a0.size < 4294967281 ∧ 1 ≤ a1.size
 ·
  rw [if_pos hb] at h
  injection h with h
  subst h
  intro R F A w vs hi hvs
  match vs, hvs with
  | [], hvs => simp [VRs] at hvs
  | [_], hvs => simp [VRs] at hvs
  | [c, d], hvs =>
   simp only [VRs, VR, and_true] at hvs
   obtain ⟨rfl, rfl⟩ := hvs
   obtain ⟨m, hm⟩ := tabIn_of hi.tab
   have hle := Lib.countB_le a1 hb.2 a0.size a0 (Nat.le_refl _)
   have hl := Lib.splitB_all a1 hb.2 0 _ a0 rfl
   refine (Any.strings_Split strings_Split.lays (by kernel_rfl) a0 a1 m w hb.1 hm hb.2).mono ?_
   rintro e w' ⟨rfl, rfl⟩
   refine CallPost.fresh (n := (Lib.splitB a1 0 (Lib.countB a0 a1) a0).length) (vs := (Lib.splitB a1 0 (Lib.countB a0 a1) a0).map Value.string) hi rfl ?_ ((Below.refl _ w).alloc (Nat.le_refl _) _) (fun _ _ _ _ => VRs_strs _)
   have h3 := World.ownsRow_lit (base := w.heap.size) (e := 9) (size := 1) w ((Lib.splitB a1 0 (Lib.countB a0 a1) a0).map Value.string).toArray (Lib.splitB a1 0 (Lib.countB a0 a1) a0).length (Nat.le_refl _) (by rw [hl]; simp only [maxLen]; omega) (by simp)
   rw [hl] at h3 ⊢
   change (World.alloc w (Obj.cells _ 9)).ownsRow _ _ _ _ _ _
   simpa using h3
  | _ :: _ :: _ :: _, hvs => simp [VRs] at hvs
 ·
  rw [if_neg hb] at h
  cases h

/-! ### impl_ParseTable_1: function 120 -/
def impl_ParseTable_1.f (a0 : Int) (a1 : Int) (l2_0 : List ByteArray) : Option (Bool) := if 0 ≤ a0 then (if a0 < (l2_0.length : Int) then (if a1 < ((Enc.rd l2_0 a0).size : Int) then (if 0 ≤ a1 then (some ((bt (Enc.rd l2_0 a0) a1) == 49)) else (none)) else (some false)) else (none)) else (none)
set_option maxRecDepth 100000 in
set_option maxHeartbeats 20000000 in
theorem impl_ParseTable_1.ac (a0 : Int) (a1 : Int) (l2_0 : List ByteArray) (r : Bool) (h : impl_ParseTable_1.f a0 a1 l2_0 = some r) :
  ACalls Tryd.prog 120 [.lit (.int .i64 a0), .lit (.int .i64 a1), .rptr [.row 1 l2_0.length false (Enc.cells l2_0)]] [] (fun v H' => v = .lit (.bool r) ∧ H' = []) := by
 refine ACalls.ofP [5] Tryd.func120 rfl (by exact Nat.le_of_ble_eq_true rfl) rfl (by decide) ?_
 simp only [Tryd.ntmps120, env0, impl_ParseTable_1.f] at h ⊢
 repeat (first | (rw [iN] at h; obtain ⟨_, h⟩ := h) | (rw [iP] at h; obtain ⟨_, h⟩ := h) | (simp only [bS] at h))
 refine AWp.seq ?_
 refine AWp.region ?_
 refine L.Y Y.asg ?_
 refine AList.nil ?_
 refine AWp.seq ?_
 refine AWp.region ?_
 refine L.Y Y.mv ?_
 refine L.S (S.ld Tryd.underlying124) ?_
 refine L.Y Y.mv ?_
 refine L.Y (Y.ixrT Tryd.underlying124 Y9 en_str) ?_
 refine L.S (S.ld Tryd.underlying9) ?_
 refine L.Y (Y.ls Tryd.underlying9) ?_
 refine L.Y Y.bin ?_
 refine L.Y Y.mv ?_
 refine L.Gc (fun hb => ?_) (fun hb => ?_)
 ·
  have hb1 := hb
  try simp only [hS, hE, ne_eq] at hb
  first | rw [if_pos hb1] at h | rw [if_neg (Bool.eq_false_iff.1 hb1)] at h | rw [if_pos hb] at h | rw [if_neg hb] at h | (simp only [hb, hT, reduceIte] at h) | skip
  repeat (first | (rw [iN] at h; obtain ⟨_, h⟩ := h) | (rw [iP] at h; obtain ⟨_, h⟩ := h) | (simp only [bS] at h))
  refine L.Gs hb1 (S.ld Tryd.underlying124) ?_
  refine L.Gy hb1 Y.mv ?_
  refine L.Gy hb1 (Y.ixrT Tryd.underlying124 Y9 en_str) ?_
  refine L.Gs hb1 (S.ld Tryd.underlying9) ?_
  refine L.Gy hb1 Y.mv ?_
  refine L.Gy hb1 (Y.ixs Tryd.underlying9) ?_
  refine L.Gy hb1 Y.bin ?_
  refine L.Y (Y.pk (c := true) hb1) ?_
  refine L.Y Y.asg ?_
  refine AList.nil ?_
  obtain rfl := Option.some.inj h
  refine AWp.ret ?_
  exact ⟨.inr rfl, [(5, _)], _, ⟨rfl, rfl⟩, IsPart.at [] [] base0 .nil (E.c .nil)⟩
 ·
  have hb1 := hb
  try simp only [hS, hE, ne_eq] at hb
  first | rw [if_pos hb1] at h | rw [if_neg (Bool.eq_false_iff.1 hb1)] at h | rw [if_pos hb] at h | rw [if_neg hb] at h | (simp only [hb, hT, reduceIte] at h) | skip
  refine L.Gn hb1 ?_
  refine L.Gn hb1 ?_
  refine L.Gn hb1 ?_
  refine L.Gn hb1 ?_
  refine L.Gn hb1 ?_
  refine L.Gn hb1 ?_
  refine L.Gn hb1 ?_
  refine L.Y (Y.pk (c := false) hb1) ?_
  refine L.Y Y.asg ?_
  refine AList.nil ?_
  obtain rfl := Option.some.inj h
  refine AWp.ret ?_
  exact ⟨.inr rfl, [(5, _)], _, ⟨rfl, rfl⟩, IsPart.at [] [] base0 .nil (E.c .nil)⟩

end Go.Proofs.YtakabmokpknknaaDoor.PFnTablesTurned
