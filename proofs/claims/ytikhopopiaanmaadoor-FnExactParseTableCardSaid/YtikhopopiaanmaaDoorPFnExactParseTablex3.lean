-- Written by a program of this session's (wip/myprint2): the functions by the kit's print, the walks by awgen.py. Lean checks it.
import Derived.Test.YtikhopopiaanmaaDoorPFnExactParseTablex0
import Derived.Test.YtikhopopiaanmaaDoorPFnExactParseTablex2
namespace Go.Proofs.YtikhopopiaanmaaDoor.PFnExactParseTable
open Go.RowKit Go.Proofs.YtikhopopiaanmaaDoorW.PrintWords Go.Proofs.YtikhopopiaanmaaDoorW.PrintLast Go.Proofs.YtikhopopiaanmaaDoorW.PrintMore Go.Proofs.YtikhopopiaanmaaDoorM Go.Proofs.YtikhopopiaanmaaDoorA Go.Proofs.YtikhopopiaanmaaDoorT
attribute [local go_sem] max2_int min2_int max_two min_two max_three min_three max_four min_four   -- for this text's walks alone
set_option linter.unusedVariables false
set_option linter.unusedSimpArgs false

/-! ### impl_IsTable: function 15 -/
def impl_IsTable.f (k : Nat) (a0_0 : Int) (a0_1 : Int) (l0_2 : List Int) : Option (Bool) := (impl_within.f a0_0 1 6).bind fun t141 => (if t141 = true then ((impl_within.f a0_1 1 6).bind fun t142 => (if t142 = true then (if (l0_2.length : Int) = a0_0 then (if 0 ≤ a0_1 then ((impl_allWithin.f k l0_2 0 (wrap64 ((shl .i64 1 a0_1) - 1))).bind fun t143 => (some t143)) else (none)) else (some false)) else (some false))) else (some false))
set_option maxRecDepth 100000 in
set_option maxHeartbeats 20000000 in
theorem impl_IsTable.ac (k : Nat) (a0_0 : Int) (a0_1 : Int) (l0_2 : List Int) (r : Bool) (h : impl_IsTable.f k a0_0 a0_1 l0_2 = some r) :
  ACalls Tryd.prog 15 [.agg [.lit (.int .i64 a0_0), .lit (.int .i64 a0_1), .row 1 l0_2.length false (ints .i64 l0_2)]] [] (fun v H' => v = .lit (.bool r) ∧ H' = []) := by
 refine ACalls.ofP [2] Tryd.func15 rfl (by exact Nat.le_of_ble_eq_true rfl) rfl (by decide) ?_
 simp only [Tryd.ntmps15, env0, impl_IsTable.f] at h ⊢
 refine AWp.seq ?_
 refine AWp.region ?_
 refine L.M M.bx ?_
 refine L.Y Y.asg ?_
 refine AList.nil ?_
 refine AWp.seq ?_
 refine Dt.reg [] [] (.y 0 (.t 1 (.one 2 (.y 3 (.y 4 (.t 5 (.one 6 (.y 7 (.y 8 (.y 9 (.t 10 (.y 11 (.y 12 (.t 13 (.y 14 (.y 15 (.y 16 (.y 17 (.t 18 (.y 19 (.t 20 (.y 21 (.y 22 (.one 23 (.y 24 (.y 25 .done)))))))))))))))))))))))))) HM ?_
 refine Dt.Y rfl wantN (Y.fa (off := 0) Tryd.underlying24 Y3) ?_
 refine Dt.T rfl wantN (D.ld Tryd.underlying3) ?_
 refine Dt.O (g' := false) rfl wantN ?_
 replace h := Option.bind_eq_some_iff.1 h
 obtain ⟨t141, hc1, h⟩ := h
 refine Ox.C true [] Tryd.func24 (impl_within.ac _ _ _ _ hc1) .nil ?_
 refine Dt.Y rfl wantN Y.mv ?_
 refine Dt.F 6 (fun hb => ?_) (fun hb => ?_)
 ·
  have hb2 := hb
  try simp only [hS, hE, ne_eq] at hb
  first | rw [if_pos hb2] at h | rw [if_neg (Bool.eq_false_iff.1 hb2)] at h | rw [if_pos hb] at h | rw [if_neg hb] at h | (simp only [hb, hT, reduceIte] at h) | skip
  refine Dt.Y rfl (wantY hb2) (Y.fa (off := 1) Tryd.underlying24 Y3) ?_
  refine Dt.T rfl (wantY hb2) (D.ld Tryd.underlying3) ?_
  refine Dt.O (g' := false) rfl (wantY hb2) ?_
  replace h := Option.bind_eq_some_iff.1 h
  obtain ⟨t142, hc3, h⟩ := h
  refine Ox.C true [] Tryd.func24 (impl_within.ac _ _ _ _ hc3) .nil ?_
  refine Dt.Y rfl wantN (Y.pk (c := true) hb2) ?_
  refine Dt.Y rfl wantN Y.mv ?_
  refine Dt.F 11 (fun hb => ?_) (fun hb => ?_)
  ·
   have hb4 := hb
   try simp only [hS, hE, ne_eq] at hb
   first | rw [if_pos hb4] at h | rw [if_neg (Bool.eq_false_iff.1 hb4)] at h | rw [if_pos hb] at h | rw [if_neg hb] at h | (simp only [hb, hT, reduceIte] at h) | skip
   refine Dt.Y rfl (wantY hb4) (Y.fa (off := 2) Tryd.underlying24 Y22) ?_
   refine Dt.T rfl (wantY hb4) (D.ld Tryd.underlying22) ?_
   refine Dt.Y rfl (wantY hb4) (Y.ln Tryd.underlying22) ?_
   refine Dt.Y rfl (wantY hb4) (Y.fa (off := 0) Tryd.underlying24 Y3) ?_
   refine Dt.T rfl (wantY hb4) (D.ld Tryd.underlying3) ?_
   refine Dt.Y rfl (wantY hb4) Y.bin ?_
   refine Dt.Y rfl wantN (Y.pk (c := true) hb4) ?_
   refine Dt.Y rfl wantN Y.mv ?_
   refine Dt.F 19 (fun hb => ?_) (fun hb => ?_)
   ·
    have hb5 := hb
    try simp only [hS, hE, ne_eq] at hb
    first | rw [if_pos hb5] at h | rw [if_neg (Bool.eq_false_iff.1 hb5)] at h | rw [if_pos hb] at h | rw [if_neg hb] at h | (simp only [hb, hT, reduceIte] at h) | skip
    repeat (first | (rw [iN] at h; obtain ⟨_, h⟩ := h) | (rw [iP] at h; obtain ⟨_, h⟩ := h) | (simp only [bS] at h))
    refine Dt.Y rfl (wantY hb5) (Y.fa (off := 2) Tryd.underlying24 Y22) ?_
    refine Dt.T rfl (wantY hb5) (D.ld Tryd.underlying22) ?_
    refine Dt.Y rfl (wantY hb5) (Y.fa (off := 1) Tryd.underlying24 Y3) ?_
    refine Dt.T rfl (wantY hb5) (D.ld Tryd.underlying3) ?_
    refine Dt.Y rfl (wantY hb5) Y.bin ?_
    refine Dt.Y rfl (wantY hb5) Y.bin ?_
    refine Dt.O (g' := false) rfl (wantY hb5) ?_
    replace h := Option.bind_eq_some_iff.1 h
    obtain ⟨t143, hc6, h⟩ := h
    refine Ox.C true [] Tryd.func25 (impl_allWithin.ac _ _ _ _ _ hc6) .nil ?_
    refine Dt.Y rfl wantN (Y.pk (c := true) hb5) ?_
    refine Dt.Y rfl wantN Y.asg ?_
    refine Dt.nil ?_
    obtain rfl := Option.some.inj h
    refine AWp.ret ?_
    exact ⟨.inr rfl, [(2, _)], _, ⟨rfl, rfl⟩, IsPart.at [] [] base0 .nil (E.c .nil)⟩
   ·
    have hb5 := hb
    try simp only [hS, hE, ne_eq] at hb
    first | rw [if_pos hb5] at h | rw [if_neg (Bool.eq_false_iff.1 hb5)] at h | rw [if_pos hb] at h | rw [if_neg hb] at h | (simp only [hb, hT, reduceIte] at h) | skip
    refine Dt.No rfl (wantZ hb5) ?_
    refine Dt.Nt rfl (wantZ hb5) ?_
    refine Dt.No rfl (wantZ hb5) ?_
    refine Dt.Nt rfl (wantZ hb5) ?_
    refine Dt.No rfl (wantZ hb5) ?_
    refine Dt.No rfl (wantZ hb5) ?_
    refine Dt.Po rfl (wantZ hb5) ?_
    refine Dt.Y rfl wantN (Y.pk (c := false) hb5) ?_
    refine Dt.Y rfl wantN Y.asg ?_
    refine Dt.nil ?_
    obtain rfl := Option.some.inj h
    refine AWp.ret ?_
    exact ⟨.inr rfl, [(2, _)], _, ⟨rfl, rfl⟩, IsPart.at [] [] base0 .nil (E.c .nil)⟩
  ·
   have hb4 := hb
   try simp only [hS, hE, ne_eq] at hb
   first | rw [if_pos hb4] at h | rw [if_neg (Bool.eq_false_iff.1 hb4)] at h | rw [if_pos hb] at h | rw [if_neg hb] at h | (simp only [hb, hT, reduceIte] at h) | skip
   refine Dt.No rfl (wantZ hb4) ?_
   refine Dt.Nt rfl (wantZ hb4) ?_
   refine Dt.No rfl (wantZ hb4) ?_
   refine Dt.No rfl (wantZ hb4) ?_
   refine Dt.Nt rfl (wantZ hb4) ?_
   refine Dt.No rfl (wantZ hb4) ?_
   refine Dt.Y rfl wantN (Y.pk (c := false) hb4) ?_
   refine Dt.Y rfl wantN Y.mv ?_
   refine Dt.F 19 (fun hb => ?_) (fun hb => ?_)
   ·
    first | exact Bool.false_ne_true ((Eq.symm (by assumption)).trans hb) | exact Bool.false_ne_true (hb.symm.trans (by assumption)) | exact DD hb
   have hb7 := hb
   refine Dt.No rfl (wantZ hb7) ?_
   refine Dt.Nt rfl (wantZ hb7) ?_
   refine Dt.No rfl (wantZ hb7) ?_
   refine Dt.Nt rfl (wantZ hb7) ?_
   refine Dt.No rfl (wantZ hb7) ?_
   refine Dt.No rfl (wantZ hb7) ?_
   refine Dt.Po rfl (wantZ hb7) ?_
   refine Dt.Y rfl wantN (Y.pk (c := false) hb7) ?_
   refine Dt.Y rfl wantN Y.asg ?_
   refine Dt.nil ?_
   obtain rfl := Option.some.inj h
   refine AWp.ret ?_
   exact ⟨.inr rfl, [(2, _)], _, ⟨rfl, rfl⟩, IsPart.at [] [] base0 .nil (E.c .nil)⟩
 ·
  have hb2 := hb
  try simp only [hS, hE, ne_eq] at hb
  first | rw [if_pos hb2] at h | rw [if_neg (Bool.eq_false_iff.1 hb2)] at h | rw [if_pos hb] at h | rw [if_neg hb] at h | (simp only [hb, hT, reduceIte] at h) | skip
  refine Dt.No rfl (wantZ hb2) ?_
  refine Dt.Nt rfl (wantZ hb2) ?_
  refine Dt.Po rfl (wantZ hb2) ?_
  refine Dt.Y rfl wantN (Y.pk (c := false) hb2) ?_
  refine Dt.Y rfl wantN Y.mv ?_
  refine Dt.F 11 (fun hb => ?_) (fun hb => ?_)
  ·
   first | exact Bool.false_ne_true ((Eq.symm (by assumption)).trans hb) | exact Bool.false_ne_true (hb.symm.trans (by assumption)) | exact DD hb
  have hb8 := hb
  refine Dt.No rfl (wantZ hb8) ?_
  refine Dt.Nt rfl (wantZ hb8) ?_
  refine Dt.No rfl (wantZ hb8) ?_
  refine Dt.No rfl (wantZ hb8) ?_
  refine Dt.Nt rfl (wantZ hb8) ?_
  refine Dt.No rfl (wantZ hb8) ?_
  refine Dt.Y rfl wantN (Y.pk (c := false) hb8) ?_
  refine Dt.Y rfl wantN Y.mv ?_
  refine Dt.F 19 (fun hb => ?_) (fun hb => ?_)
  ·
   first | exact Bool.false_ne_true ((Eq.symm (by assumption)).trans hb) | exact Bool.false_ne_true (hb.symm.trans (by assumption)) | exact DD hb
  have hb9 := hb
  refine Dt.No rfl (wantZ hb9) ?_
  refine Dt.Nt rfl (wantZ hb9) ?_
  refine Dt.No rfl (wantZ hb9) ?_
  refine Dt.Nt rfl (wantZ hb9) ?_
  refine Dt.No rfl (wantZ hb9) ?_
  refine Dt.No rfl (wantZ hb9) ?_
  refine Dt.Po rfl (wantZ hb9) ?_
  refine Dt.Y rfl wantN (Y.pk (c := false) hb9) ?_
  refine Dt.Y rfl wantN Y.asg ?_
  refine Dt.nil ?_
  obtain rfl := Option.some.inj h
  refine AWp.ret ?_
  exact ⟨.inr rfl, [(2, _)], _, ⟨rfl, rfl⟩, IsPart.at [] [] base0 .nil (E.c .nil)⟩

/-! ### impl_Table_marked: function 26 -/
def impl_Table_marked.f (a0_0 : Int) (a0_1 : Int) (l0_2 : List Int) (a1 : Int) (a2 : Int) : Option (Bool) := if 0 ≤ a1 then (if a1 < (l0_2.length : Int) then (if 0 ≤ a2 then (some ((Go.bits .and .i64 (shr .i64 (rd l0_2 a1) a2) 1) == 1)) else (none)) else (none)) else (none)
set_option maxRecDepth 100000 in
set_option maxHeartbeats 20000000 in
theorem impl_Table_marked.ac (a0_0 : Int) (a0_1 : Int) (l0_2 : List Int) (a1 : Int) (a2 : Int) (r : Bool) (h : impl_Table_marked.f a0_0 a0_1 l0_2 a1 a2 = some r) :
  ACalls Tryd.prog 26 [.agg [.lit (.int .i64 a0_0), .lit (.int .i64 a0_1), .row 1 l0_2.length false (ints .i64 l0_2)], .lit (.int .i64 a1), .lit (.int .i64 a2)] [] (fun v H' => v = .lit (.bool r) ∧ H' = []) := by
 refine ACalls.ofP [6] Tryd.func26 rfl (by exact Nat.le_of_ble_eq_true rfl) rfl (by decide) ?_
 simp only [Tryd.ntmps26, env0, impl_Table_marked.f] at h ⊢
 repeat (first | (rw [iN] at h; obtain ⟨_, h⟩ := h) | (rw [iP] at h; obtain ⟨_, h⟩ := h) | (simp only [bS] at h))
 refine AWp.seq ?_
 refine AWp.region ?_
 refine L.M M.bx ?_
 refine L.Y Y.asg ?_
 refine AList.nil ?_
 refine AWp.seq ?_
 refine AWp.region ?_
 refine L.Y (Y.fa (off := 2) Tryd.underlying24 Y22) ?_
 refine L.S (S.ld Tryd.underlying22) ?_
 refine L.Y Y.mv ?_
 refine L.Y (Y.ixr Tryd.underlying22 Y3) ?_
 refine L.S (S.ld Tryd.underlying3) ?_
 refine L.Y Y.mv ?_
 refine L.Y Y.bin ?_
 refine L.Y Y.bin ?_
 refine L.Y Y.bin ?_
 refine L.Y Y.asg ?_
 refine AList.nil ?_
 obtain rfl := Option.some.inj h
 refine AWp.ret ?_
 exact ⟨.inr rfl, [(6, _)], _, ⟨rfl, rfl⟩, IsPart.at [] [] base0 .nil (E.c .nil)⟩

-- NOT PRINTED: function 45 (abi_NoEscape)

-- NOT PRINTED: function 38 (strings_Builder_copyCheck)

-- NOT PRINTED: function 46 (bytealg_MakeNoZero)

-- NOT PRINTED: function 39 (strings_Builder_grow)

-- NOT PRINTED: function 31 (strings_Builder_Grow)

-- NOT PRINTED: function 32 (strings_Builder_WriteString)

-- NOT PRINTED: function 33 (strings_Builder_String)

/-! ### strings_Join: function 27 -/
def strings_Join.ren : Go.Shelf.Ren := ⟨fun | 156 => 27 | 165 => 31 | 166 => 32 | 169 => 33 | 240 => 38 | 241 => 39 | 276 => 45 | 277 => 46 | n => n, fun | 31 => 30 | 9 => 9 | 3 => 3 | 4 => 4 | 0 => 0 | 20 => 20 | 72 => 48 | 76 => 52 | 70 => 45 | 37 => 46 | 75 => 51 | 127 => 59 | 164 => 62 | 5 => 5 | 80 => 54 | n => n, fun | n => n⟩
theorem strings_Join.lays : Go.Proofs.Lays.n156 Tryd.prog strings_Join.ren := {
 mixed := by kernel_rfl
 f156 := Tryd.func27.trans (congrArg some (by kernel_rfl))
 f165 := Tryd.func31.trans (congrArg some (by kernel_rfl))
 f166 := Tryd.func32.trans (congrArg some (by kernel_rfl))
 f169 := Tryd.func33.trans (congrArg some (by kernel_rfl))
 f240 := Tryd.func38.trans (congrArg some (by kernel_rfl))
 f241 := Tryd.func39.trans (congrArg some (by kernel_rfl))
 f276 := Tryd.func45.trans (congrArg some (by kernel_rfl))
 f277 := Tryd.func46.trans (congrArg some (by kernel_rfl))
 t0 := Tryd.underlying0
 a0 := Tryd.isAgg0
 z0 := Tryd.sizeOf0
 v0 := Tryd.zeroValue0
 t3 := Tryd.underlying3
 a3 := Tryd.isAgg3
 z3 := Tryd.sizeOf3
 v3 := Tryd.zeroValue3
 t4 := Tryd.underlying4
 a4 := Tryd.isAgg4
 z4 := Tryd.sizeOf4
 v4 := Tryd.zeroValue4
 t9 := Tryd.underlying9
 a9 := Tryd.isAgg9
 z9 := Tryd.sizeOf9
 v9 := Tryd.zeroValue9
 t20 := Tryd.underlying20
 a20 := Tryd.isAgg20
 z20 := Tryd.sizeOf20
 v20 := Tryd.zeroValue20
 t31 := Tryd.underlying30
 a31 := Tryd.isAgg30
 z31 := Tryd.sizeOf30
 v31 := Tryd.zeroValue30
 t37 := Tryd.underlying46
 a37 := Tryd.isAgg46
 z37 := Tryd.sizeOf46
 v37 := Tryd.zeroValue46
 t70 := Tryd.underlying45
 a70 := Tryd.isAgg45
 z70 := Tryd.sizeOf45
 v70 := Tryd.zeroValue45
 t72 := Tryd.underlying48
 a72 := Tryd.isAgg48
 z72 := Tryd.sizeOf48
 v72 := Tryd.zeroValue48
 t75 := Tryd.underlying51
 a75 := Tryd.isAgg51
 z75 := Tryd.sizeOf51
 v75 := Tryd.zeroValue51
 t76 := Tryd.underlying52
 a76 := Tryd.isAgg52
 z76 := Tryd.sizeOf52
 v76 := Tryd.zeroValue52
 t127 := Tryd.underlying59
 a127 := Tryd.isAgg59
 z127 := Tryd.sizeOf59
 v127 := Tryd.zeroValue59
 t164 := Tryd.underlying62
 a164 := Tryd.isAgg62
 z164 := Tryd.sizeOf62
 v164 := Tryd.zeroValue62 }
theorem strings_Join.extra : Go.Proofs.Builder.Extra Tryd.prog strings_Join.ren := {
 sizeBuilder := by kernel_rfl
 liesBuilder := by kernel_rfl
 t5 := Tryd.underlying5
 a5 := Tryd.isAgg5
 z5 := Tryd.sizeOf5
 v5 := Tryd.zeroValue5
 infoByte := by kernel_rfl
 cellsByte := by kernel_rfl
 sizeByte := by kernel_rfl
 neB5 := by decide }
def strings_Join.f (l0 : List ByteArray) (a1 : ByteArray) : Option (ByteArray) := if l0.length ≤ 140737488355328 ∧ (Lib.join (l0.map (·.data.toList)) a1.data.toList).length ≤ 140737488355328 then some ⟨(Lib.join (l0.map (·.data.toList)) a1.data.toList).toArray⟩ else none
theorem strings_Join.ac (l0 : List ByteArray) (a1 : ByteArray) (r : ByteArray) (h : strings_Join.f l0 a1 = some r) : ACalls Tryd.prog 27 [.row 1 l0.length false (Enc.cells l0), .lit (.string a1)] [] (fun v H' => v = .lit (.string r) ∧ H' = []) := by
 unfold strings_Join.f at h
 by_cases hb : l0.length ≤ 140737488355328 ∧ (Lib.join (l0.map (·.data.toList)) a1.data.toList).length ≤ 140737488355328
 ·
  rw [if_pos hb] at h
  injection h with h
  subst h
  intro R F A w vs hi hvs
  match vs, hvs with
  | [], hvs => simp [VRs] at hvs
  | [_], hvs => simp [VRs] at hvs
  | [c, d], hvs =>
   simp only [VRs, and_true] at hvs
   obtain ⟨hc, hd⟩ := hvs
   simp only [VR] at hd
   subst hd
   have none_ : ∀ (p : Option Addr) (cap : Nat), l0 = [] → Calls Tryd.prog 27 #[.slice p 0 cap, .string a1] w (CallPost (fun v H' => v = .lit (.string ⟨(Lib.join (l0.map (·.data.toList)) a1.data.toList).toArray⟩) ∧ H' = []) R F A [] w) := by
    intro p cap h0
    subst h0
    refine (Any.strings_Join_none strings_Join.lays strings_Join.extra p cap a1 w).mono ?_
    rintro e w' ⟨rfl, rfl⟩
    exact CallPost.below hi rfl (Below.refl _ _)
   rcases VR.strs_cells hc with ⟨rfl, h0⟩ | ⟨p, cap, rfl, hcap, hcell⟩
   ·
    exact none_ none 0 h0
   ·
    by_cases hp : 0 < l0.length
    ·
     obtain ⟨b, off, rfl, _, hcc⟩ := hcell hp
     have h1 : w.cell? ⟨b, off + 0, none⟩ = some (.string l0[0]) := hcc 0 l0[0] (List.getElem?_eq_getElem hp)
     rw [Nat.add_zero] at h1
     refine (Any.strings_Join strings_Join.lays strings_Join.extra b off cap l0 a1 w hcc (World.block_lt_of_cell? _ _ h1) hb.1 hcap hb.2).mono ?_
     rintro e w' ⟨rfl, hbl⟩
     exact CallPost.below hi rfl hbl
    ·
     have h0 : l0 = [] := List.eq_nil_of_length_eq_zero (by omega)
     have := none_ (some p) cap h0
     rw [h0] at this ⊢
     exact this
  | _ :: _ :: _ :: _, hvs => simp [VRs] at hvs
 ·
  rw [if_neg hb] at h
  cases h

/-! ### impl_tableText: function 16 -/
mutual
def impl_tableText.l0 : Nat → List ByteArray → Int → Int → Int → Int → List Int → Option (ByteArray)
 | 0, _, _, _, _, _, _ => none
 | k + 1, x3, x9, x10, x147000, x147001, x147002 => if x10 < x9 then (impl_tableText.l1 k x3 x10 (⟨#[]⟩ : ByteArray) x9 x10 x147001 0 x147000 x147001 x147002) else ((strings_Join.f x3 (⟨#[47]⟩ : ByteArray)).bind fun t150 => (some t150))
def impl_tableText.l1 : Nat → List ByteArray → Int → ByteArray → Int → Int → Int → Int → Int → Int → List Int → Option (ByteArray)
 | 0, _, _, _, _, _, _, _, _, _, _ => none
 | k + 1, x3, x4, x5, x9, x10, x14, x15, x147000, x147001, x147002 => if x15 < x14 then ((impl_Table_marked.f x147000 x147001 x147002 x4 x15).bind fun t151 => (if t151 = true then (if x5.size + 1 ≤ 9223372036854775807 then (impl_tableText.l1 k x3 x4 (x5 ++ (⟨#[49]⟩ : ByteArray)) x9 x10 x14 (wrap64 (x15 + 1)) x147000 x147001 x147002) else (none)) else (if x5.size + 1 ≤ 9223372036854775807 then (impl_tableText.l1 k x3 x4 (x5 ++ (⟨#[48]⟩ : ByteArray)) x9 x10 x14 (wrap64 (x15 + 1)) x147000 x147001 x147002) else (none)))) else (if x3.length < 8796093022208 then (impl_tableText.l0 k (x3 ++ [x5]) x9 (wrap64 (x10 + 1)) x147000 x147001 x147002) else (none))
end
def impl_tableText.f (k : Nat) (a0_0 : Int) (a0_1 : Int) (l0_2 : List Int) : Option (ByteArray) := impl_tableText.l0 k (([] : List ByteArray)) a0_0 0 a0_0 a0_1 l0_2
set_option maxRecDepth 100000 in
set_option maxHeartbeats 20000000 in
theorem impl_tableText.ac (k : Nat) (a0_0 : Int) (a0_1 : Int) (l0_2 : List Int) (r : ByteArray) (h : impl_tableText.f k a0_0 a0_1 l0_2 = some r) :
  ACalls Tryd.prog 16 [.agg [.lit (.int .i64 a0_0), .lit (.int .i64 a0_1), .row 1 l0_2.length false (ints .i64 l0_2)]] [] (fun v H' => v = .lit (.string r) ∧ H' = []) := by
 refine ACalls.ofP [2] Tryd.func16 rfl (by exact Nat.le_of_ble_eq_true rfl) rfl (by decide) ?_
 simp only [Tryd.ntmps16, env0, impl_tableText.f] at h ⊢
 repeat (first | (rw [iN] at h; obtain ⟨_, h⟩ := h) | (rw [iP] at h; obtain ⟨_, h⟩ := h) | (simp only [bS] at h))
 refine AWp.seq ?_
 refine AWp.region ?_
 refine L.M M.bx ?_
 refine L.Y Y.asg ?_
 refine AList.nil ?_
 refine AWp.seq ?_
 refine AWp.region ?_
 refine L.M (M.bsT ([] : List ByteArray) Tryd.underlying30 Y9) ?_
 refine L.Y Y.asg ?_
 refine AList.nil ?_
 refine AWp.seq ?_
 refine AWp.seq ?_
 refine AWp.region ?_
 refine L.Y (Y.fa (off := 0) Tryd.underlying24 Y3) ?_
 refine L.S (S.ld Tryd.underlying3) ?_
 refine L.Y Y.mv ?_
 refine AList.nil ?_
 refine AWp.block ?_
 refine AWp.loopI (fun kk e H => kk ≤ k ∧ ∃ (x3 : List ByteArray) (x9 : Int) (x10 : Int) (x147000 : Int) (x147001 : Int), e = [(1, .ptr 0 0), (3, .own 1 x3.length), (9, .lit (.int .i64 x9)), (10, .lit (.int .i64 x10))] ∧ H = [.bx 24 [.lit (.int .i64 x147000), .lit (.int .i64 x147001), .row 1 l0_2.length false (ints .i64 l0_2)], .sl 9 1 x3.length true (Enc.cells x3)] ∧ impl_tableText.l0 kk x3 x9 x10 x147000 x147001 l0_2 = some r) (k := k)
  ⟨_, _, ⟨Nat.le_refl _, _, _, _, _, _, rfl, rfl, h⟩, IsPart.at [] [0, 1] base0 (H.c (H.c .nil)) (E.c (E.c (E.c (E.c .nil))))⟩ ?_
 clear h
 rintro k1 e H ⟨hk2, x3, x9, x10, x147000, x147001, rfl, rfl, h⟩
 cases k1 with
 | zero => exact absurd h (by simp [impl_tableText.l0])
 | succ k1 =>
 simp only [impl_tableText.l0] at h
 refine AWp.seq ?_
 refine AWp.region ?_
 refine L.Y Y.bin ?_
 refine AList.nil ?_
 refine AWp.seq ?_
 refine W.cond (fun hb => ?_) (fun hb => ?_)
 ·
  have hb3 := hb
  try simp only [hS, hE, ne_eq] at hb
  first | rw [if_pos hb3] at h | rw [if_neg (Bool.eq_false_iff.1 hb3)] at h | rw [if_pos hb] at h | rw [if_neg hb] at h | (simp only [hb, hT, reduceIte] at h) | skip
  refine AWp.skip ?_
  refine AWp.seq ?_
  refine AWp.block ?_
  refine AWp.seq ?_
  refine AWp.region ?_
  refine L.Y Y.mv ?_
  refine L.Y Y.asg ?_
  refine AList.nil ?_
  refine AWp.seq ?_
  refine AWp.region ?_
  refine L.Y Y.asg ?_
  refine AList.nil ?_
  refine AWp.seq ?_
  refine AWp.seq ?_
  refine AWp.region ?_
  refine L.Y (Y.fa (off := 1) Tryd.underlying24 Y3) ?_
  refine L.S (S.ld Tryd.underlying3) ?_
  refine L.Y Y.mv ?_
  refine AList.nil ?_
  refine AWp.block ?_
  refine AWp.loopI (fun kk e H => kk ≤ k1 ∧ ∃ (x3 : List ByteArray) (x4 : Int) (x5 : ByteArray) (x9 : Int) (x10 : Int) (x14 : Int) (x15 : Int) (x147000 : Int) (x147001 : Int), e = [(1, .ptr 0 0), (3, .own 1 x3.length), (4, .lit (.int .i64 x4)), (5, .lit (.string x5)), (9, .lit (.int .i64 x9)), (10, .lit (.int .i64 x10)), (14, .lit (.int .i64 x14)), (15, .lit (.int .i64 x15))] ∧ H = [.bx 24 [.lit (.int .i64 x147000), .lit (.int .i64 x147001), .row 1 l0_2.length false (ints .i64 l0_2)], .sl 9 1 x3.length true (Enc.cells x3)] ∧ impl_tableText.l1 kk x3 x4 x5 x9 x10 x14 x15 x147000 x147001 l0_2 = some r) (k := k1)
   ⟨_, _, ⟨Nat.le_refl _, _, _, _, _, _, _, _, _, _, rfl, rfl, h⟩, IsPart.at [] [0, 1] base0 (H.c (H.c .nil)) (E.c (E.c (E.c (E.c (E.c (E.c (E.c (E.c .nil))))))))⟩ ?_
  clear h
  rintro k4 e H ⟨hk5, x3, x4, x5, x9, x10, x14, x15, x147000, x147001, rfl, rfl, h⟩
  cases k4 with
  | zero => exact absurd h (by simp [impl_tableText.l1])
  | succ k4 =>
  simp only [impl_tableText.l1] at h
  refine AWp.seq ?_
  refine AWp.region ?_
  refine L.Y Y.bin ?_
  refine AList.nil ?_
  refine AWp.seq ?_
  refine W.cond (fun hb => ?_) (fun hb => ?_)
  ·
   have hb6 := hb
   try simp only [hS, hE, ne_eq] at hb
   first | rw [if_pos hb6] at h | rw [if_neg (Bool.eq_false_iff.1 hb6)] at h | rw [if_pos hb] at h | rw [if_neg hb] at h | (simp only [hb, hT, reduceIte] at h) | skip
   refine AWp.skip ?_
   refine AWp.seq ?_
   refine AWp.block ?_
   refine AWp.seq ?_
   refine AWp.region ?_
   refine L.Y Y.mv ?_
   refine L.Y Y.asg ?_
   refine AList.nil ?_
   refine AWp.seq ?_
   refine AWp.region ?_
   refine L.S (S.ldN Tryd.underlying24 Y24) ?_
   refine L.Y Y.mv ?_
   refine L.Y Y.mv ?_
   replace h := Option.bind_eq_some_iff.1 h
   obtain ⟨t151, hc7, h⟩ := h
   refine L.C (C.callE (l := true) [] Tryd.func26 (impl_Table_marked.ac _ _ _ _ _ _ hc7) .nil ?_)
   refine AList.nil ?_
   refine W.cond (fun hb => ?_) (fun hb => ?_)
   ·
    have hb8 := hb
    try simp only [hS, hE, ne_eq] at hb
    first | rw [if_pos hb8] at h | rw [if_neg (Bool.eq_false_iff.1 hb8)] at h | rw [if_pos hb] at h | rw [if_neg hb] at h | (simp only [hb, hT, reduceIte] at h) | skip
    repeat (first | (rw [iN] at h; obtain ⟨_, h⟩ := h) | (rw [iP] at h; obtain ⟨_, h⟩ := h) | (simp only [bS] at h))
    refine W.kp [1, 3, 4, 5, 6, 9, 10, 14, 15, 16, 21] ?_
    refine AWp.region ?_
    refine L.Y Y.mv ?_
    refine L.Y Y.bin ?_
    refine L.Y Y.asg ?_
    refine AList.nil ?_
    refine AWp.region ?_
    refine L.Y Y.bin ?_
    refine L.Y Y.mv ?_
    refine AList.nil ?_
    exact ⟨k4, by omega, _, _, ⟨by omega, _, _, _, _, _, _, _, _, _, rfl, rfl, h⟩, IsPart.at [] [0, 1] base0 (H.c (H.c .nil)) (E.c (E.c (E.c (E.c (E.c (E.c (E.c (E.c .nil))))))))⟩
   ·
    have hb8 := hb
    try simp only [hS, hE, ne_eq] at hb
    first | rw [if_pos hb8] at h | rw [if_neg (Bool.eq_false_iff.1 hb8)] at h | rw [if_pos hb] at h | rw [if_neg hb] at h | (simp only [hb, hT, reduceIte] at h) | skip
    repeat (first | (rw [iN] at h; obtain ⟨_, h⟩ := h) | (rw [iP] at h; obtain ⟨_, h⟩ := h) | (simp only [bS] at h))
    refine W.kp [1, 3, 4, 5, 6, 9, 10, 14, 15, 16, 21] ?_
    refine AWp.region ?_
    refine L.Y Y.mv ?_
    refine L.Y Y.bin ?_
    refine L.Y Y.asg ?_
    refine AList.nil ?_
    refine AWp.region ?_
    refine L.Y Y.bin ?_
    refine L.Y Y.mv ?_
    refine AList.nil ?_
    exact ⟨k4, by omega, _, _, ⟨by omega, _, _, _, _, _, _, _, _, _, rfl, rfl, h⟩, IsPart.at [] [0, 1] base0 (H.c (H.c .nil)) (E.c (E.c (E.c (E.c (E.c (E.c (E.c (E.c .nil))))))))⟩
  ·
   have hb6 := hb
   try simp only [hS, hE, ne_eq] at hb
   first | rw [if_pos hb6] at h | rw [if_neg (Bool.eq_false_iff.1 hb6)] at h | rw [if_pos hb] at h | rw [if_neg hb] at h | (simp only [hb, hT, reduceIte] at h) | skip
   repeat (first | (rw [iN] at h; obtain ⟨_, h⟩ := h) | (rw [iP] at h; obtain ⟨_, h⟩ := h) | (simp only [bS] at h))
   refine AWp.exit ?_
   refine AWp.region ?_
   refine L.Y Y.mv ?_
   refine L.Y Y.mv ?_
   refine L.M (M.bsT ([(_ : ByteArray)] : List ByteArray) Tryd.underlying30 Y9) ?_
   refine L.S (S.ap (nn' := true) Tryd.underlying30 Y9) ?_
   refine L.Y Y.asg ?_
   refine AList.nil ?_
   refine W.kp [1, 3, 4, 5, 9, 10, 14, 15, 16] ?_
   refine AWp.region ?_
   refine L.Y Y.bin ?_
   refine L.Y Y.mv ?_
   refine AList.nil ?_
   exact ⟨k4, by omega, _, _, ⟨by omega, _, _, _, _, _, rfl, rfl, h⟩, IsPart.at [] [0, 1] base0 (H.c (H.c .nil)) (E.c (E.c (E.c (E.c .nil))))⟩
 ·
  have hb3 := hb
  try simp only [hS, hE, ne_eq] at hb
  first | rw [if_pos hb3] at h | rw [if_neg (Bool.eq_false_iff.1 hb3)] at h | rw [if_pos hb] at h | rw [if_neg hb] at h | (simp only [hb, hT, reduceIte] at h) | skip
  refine AWp.exit ?_
  refine AWp.seq ?_
  refine AWp.region ?_
  refine L.Y Y.mv ?_
  replace h := Option.bind_eq_some_iff.1 h
  obtain ⟨t150, hc9, h⟩ := h
  refine L.C (C.callE (l := true) [] Tryd.func27 (strings_Join.ac _ _ _ hc9) .nil ?_)
  refine L.Y Y.asg ?_
  refine AList.nil ?_
  obtain rfl := Option.some.inj h
  refine AWp.ret ?_
  exact ⟨.inr rfl, [(2, _)], _, ⟨rfl, rfl⟩, IsPart.at [] [] base0 .nil (E.c .nil)⟩

/-! ### impl_ParseTable: function 5 -/
def impl_ParseTable.j0 : Nat → ByteArray → Bool → List ByteArray → Option (Int × Int × List Int × Bool)
 | 0, _, _, _ => none
 | k + 1, x0, x17, x160000 => if x17 = true then (some (0, 0, ([] : List Int), false)) else (if 0 < (x160000.length : Int) then ((impl_table.f k (x160000.length : Int) ((Enc.rd x160000 0).size : Int) (fun z0_ z1_ => impl_ParseTable_1.f z0_ z1_ x160000)).bind fun bt162 => ((impl_IsTable.f k bt162.1 bt162.2.1 bt162.2.2).bind fun t168 => (if t168 = true then ((impl_tableText.f k bt162.1 bt162.2.1 bt162.2.2).bind fun t169 => (if t169.toList = x0.toList then (some (bt162.1, bt162.2.1, bt162.2.2, true)) else (some (0, 0, ([] : List Int), false)))) else (some (0, 0, ([] : List Int), false))))) else (none))
def impl_ParseTable.f (k : Nat) (a0 : ByteArray) : Option (Int × Int × List Int × Bool) := (strings_Split.f a0 (⟨#[47]⟩ : ByteArray)).bind fun t156 => (if (t156.length : Int) > 6 then (impl_ParseTable.j0 k a0 true t156) else (if 0 < (t156.length : Int) then (impl_ParseTable.j0 k a0 (decide (((Enc.rd t156 0).size : Int) > 6)) t156) else (none)))
set_option maxRecDepth 100000 in
set_option maxHeartbeats 20000000 in
theorem impl_ParseTable.ac (k : Nat) (a0 : ByteArray) (r1 : Int) (r2 : Int) (r3 : List Int) (r4 : Bool) (h : impl_ParseTable.f k a0 = some (r1, r2, r3, r4)) :
  ACalls Tryd.prog 5 [.lit (.string a0)] [] (fun v H' => v = .tup [.agg [.lit (.int .i64 r1), .lit (.int .i64 r2), .own 0 r3.length], .lit (.bool r4)] ∧ H' = [.sl 3 1 r3.length false (ints .i64 r3)]) := by
 refine ACalls.ofV Tryd.func5 rfl (by exact Nat.le_of_ble_eq_true rfl) ?_
 simp only [Tryd.ntmps5, env0, impl_ParseTable.f] at h ⊢
 refine AWp.seq ?_
 refine AWp.region ?_
 refine L.M (M.al Y24) ?_
 refine L.Y Y.asg ?_
 refine AList.nil ?_
 refine AWp.seq ?_
 refine AWp.region ?_
 refine L.Y Y.mv ?_
 replace h := Option.bind_eq_some_iff.1 h
 obtain ⟨t156, hc1, h⟩ := h
 refine L.C (C.callE (l := true) [] Tryd.func12 (strings_Split.ac _ _ _ hc1) .nil ?_)
 refine L.M (M.al Y30) ?_
 refine L.S (S.stb Y30) ?_
 refine AList.nil ?_
 refine AWp.seq ?_
 refine AWp.seq ?_
 refine AWp.region ?_
 refine L.S (S.ld Tryd.underlying30) ?_
 refine L.Y (Y.ln Tryd.underlying30) ?_
 refine L.Y Y.bin ?_
 refine L.Y Y.mv ?_
 refine L.Gc (fun hb => ?_) (fun hb => ?_)
 ·
  have hb2 := hb
  try simp only [hS, hE, ne_eq] at hb
  first | rw [if_pos hb2] at h | rw [if_neg (Bool.eq_false_iff.1 hb2)] at h | rw [if_pos hb] at h | rw [if_neg hb] at h | (simp only [hb, hT, reduceIte] at h) | skip
  refine L.Gn hb2 ?_
  refine L.Gn hb2 ?_
  refine L.Gn hb2 ?_
  refine L.Gn hb2 ?_
  refine L.Gn hb2 ?_
  refine L.Y (Y.pk (c := true) hb2) ?_
  refine AList.nil ?_
  rcases k with _ | k
  ·
   exact absurd h (by simp [impl_ParseTable.j0])
  simp only [impl_ParseTable.j0] at h
  refine W.cond (fun hb => ?_) (fun hb => ?_)
  rotate_left
  ·
   first | exact Bool.false_ne_true ((Eq.symm (by assumption)).trans hb) | exact Bool.false_ne_true (hb.symm.trans (by assumption)) | exact DD hb
  have hb3 := hb
  try (first | rw [if_pos hb3] at h | rw [if_neg (Bool.eq_false_iff.1 hb3)] at h | rw [if_pos hb] at h | rw [if_neg hb] at h | (simp only [hb, hT, reduceIte] at h) | skip)
  refine AWp.seq ?_
  refine W.kp [0, 2, 3, 4, 17] ?_
  refine AWp.region ?_
  refine L.Y (Y.bd Tryd.underlying24 Y24 P24) ?_
  refine L.S (S.stb Y24) ?_
  refine L.Y Y.asg ?_
  refine AList.nil ?_
  simp only [Option.some.injEq, Prod.mk.injEq] at h
  obtain ⟨rfl, rfl, rfl, rfl⟩ := h
  refine AWp.ret ?_
  exact ⟨.inr rfl, _, _, _, Res.c2 Tryd.underlying24 Y24, ⟨rfl, rfl⟩, PartV.at [(3, 1)] [3] base0 (H.c .nil)⟩
 ·
  have hb2 := hb
  try simp only [hS, hE, ne_eq] at hb
  first | rw [if_pos hb2] at h | rw [if_neg (Bool.eq_false_iff.1 hb2)] at h | rw [if_pos hb] at h | rw [if_neg hb] at h | (simp only [hb, hT, reduceIte] at h) | skip
  repeat (first | (rw [iN] at h; obtain ⟨_, h⟩ := h) | (rw [iP] at h; obtain ⟨_, h⟩ := h) | (simp only [bS] at h))
  refine L.Gs hb2 (S.ld Tryd.underlying30) ?_
  refine L.Gy hb2 (Y.ixo Tryd.underlying30 Y9) ?_
  refine L.Gs hb2 (S.ldT 1 0 Tryd.underlying9 en_str) ?_
  refine L.Gy hb2 (Y.ls Tryd.underlying9) ?_
  refine L.Gy hb2 Y.bin ?_
  refine L.Y (Y.pk (c := false) hb2) ?_
  refine AList.nil ?_
  rcases k with _ | k
  ·
   exact absurd h (by simp [impl_ParseTable.j0])
  simp only [impl_ParseTable.j0] at h
  refine W.cond (fun hb => ?_) (fun hb => ?_)
  ·
   have hb4 := hb
   try simp only [hS, hE, ne_eq] at hb
   first | rw [if_pos hb4] at h | rw [if_neg (Bool.eq_false_iff.1 hb4)] at h | rw [if_pos hb] at h | rw [if_neg hb] at h | (simp only [hb, hT, reduceIte] at h) | skip
   refine AWp.seq ?_
   refine W.kp [0, 2, 3, 4, 17] ?_
   refine AWp.region ?_
   refine L.Y (Y.bd Tryd.underlying24 Y24 P24) ?_
   refine L.S (S.stb Y24) ?_
   refine L.Y Y.asg ?_
   refine AList.nil ?_
   simp only [Option.some.injEq, Prod.mk.injEq] at h
   obtain ⟨rfl, rfl, rfl, rfl⟩ := h
   refine AWp.ret ?_
   exact ⟨.inr rfl, _, _, _, Res.c2 Tryd.underlying24 Y24, ⟨rfl, rfl⟩, PartV.at [(3, 1)] [3] base0 (H.c .nil)⟩
  ·
   have hb4 := hb
   try simp only [hS, hE, ne_eq] at hb
   first | rw [if_pos hb4] at h | rw [if_neg (Bool.eq_false_iff.1 hb4)] at h | rw [if_pos hb] at h | rw [if_neg hb] at h | (simp only [hb, hT, reduceIte] at h) | skip
   repeat (first | (rw [iN] at h; obtain ⟨_, h⟩ := h) | (rw [iP] at h; obtain ⟨_, h⟩ := h) | (simp only [bS] at h))
   refine AWp.skip ?_
   refine AWp.seq ?_
   refine W.kp [0, 2, 3, 4, 17] ?_
   replace h := Option.bind_eq_some_iff.1 h
   obtain ⟨⟨t162, t163, t164⟩, hc5, h⟩ := h
   dsimp only at h
   apply AWp.joinX
   ·
    refine Dt.reg [] [9] (.t 0 (.y 1 (.t 2 (.y 3 (.t 4 (.y 5 (.y 6 (.two 7 (.one 8 (.last 9 .done)) 8 (.one 7 (.last 9 .done)))))))))) HM ?_
    refine Dt.T rfl wantN (D.ld Tryd.underlying30) ?_
    refine Dt.Y rfl wantN (Y.ln Tryd.underlying30) ?_
    refine Dt.T rfl wantN (D.ld Tryd.underlying30) ?_
    refine Dt.Y rfl wantN (Y.ixo Tryd.underlying30 Y9) ?_
    refine Dt.T rfl wantN (D.ldT 1 0 Tryd.underlying9 en_str) ?_
    refine Dt.Y rfl wantN (Y.ls Tryd.underlying9) ?_
    refine Dt.Y rfl wantN Y.fn ?_
    refine Dt.B (g1 := false) (g2 := false) rfl rfl wantN wantN ?_ ?_
    ·
     skip
     refine Ox.C true [] Tryd.func13 (impl_table.ac _ _ _ _ _ _ _ hc5 14 _ (FnOk.at_ Tryd.func14) (by simp [noids, noid, noids_ints, Enc.cells_noids]) (fun x_ y_ r_ h_ => impl_ParseTable_1.ac x_ y_ _ r_ h_)) .nil ?_
     refine Dt.O (g' := false) rfl wantN ?_
     refine Ox.M (M.al Y24) ?_
     refine Dt.L rfl wantN ?_
     refine Op.S (S.stb Y24) ?_
     refine Du.nil ?_
     exact ⟨rfl, .inl ⟨rfl, rfl⟩⟩
    ·
     skip
     refine Ox.M (M.al Y24) ?_
     refine Dt.O (g' := false) rfl wantN ?_
     refine Ox.C true [] Tryd.func13 (impl_table.ac _ _ _ _ _ _ _ hc5 14 _ (FnOk.at_ Tryd.func14) (by simp [noids, noid, noids_ints, Enc.cells_noids]) (fun x_ y_ r_ h_ => impl_ParseTable_1.ac x_ y_ _ r_ h_)) .nil ?_
     refine Dt.L rfl wantN ?_
     refine Op.S (S.stb Y24) ?_
     refine Du.nil ?_
     exact ⟨rfl, .inr (IsPart.at [] [0, 1, 2, 4, 3] base0 (H.c (H.c (H.c (H.c (H.c .nil))))) (by repeat' first | exact .nil | refine E.c ?_))⟩
   ·
    skip
    refine AWp.seq ?_
    refine AWp.seq ?_
    refine W.kp [0, 2, 3, 4, 5, 17] ?_
    refine AWp.region ?_
    refine L.S (S.ldN Tryd.underlying24 Y24) ?_
    replace h := Option.bind_eq_some_iff.1 h
    obtain ⟨t168, hc6, h⟩ := h
    refine L.C (C.callE (l := true) [] Tryd.func15 (impl_IsTable.ac _ _ _ _ _ hc6) .nil ?_)
    refine L.Y Y.nt ?_
    refine L.Y Y.mv ?_
    refine L.Gc (fun hb => ?_) (fun hb => ?_)
    ·
     have hb7 := hb
     try simp only [hS, hE, ne_eq] at hb
     first | rw [if_pos hb7] at h | rw [if_neg (Bool.eq_false_iff.1 hb7)] at h | rw [if_pos hb] at h | rw [if_neg hb] at h | (simp only [hb, hT, reduceIte] at h) | skip
     refine L.Gn hb7 ?_
     refine L.Gn hb7 ?_
     refine L.Gn hb7 ?_
     refine L.Gn hb7 ?_
     refine L.Y (Y.pk (c := true) hb7) ?_
     refine AList.nil ?_
     refine W.cond (fun hb => ?_) (fun hb => ?_)
     rotate_left
     ·
      first | exact Bool.false_ne_true ((Eq.symm (by assumption)).trans hb) | exact Bool.false_ne_true (hb.symm.trans (by assumption)) | exact DD hb
     have hb8 := hb
     refine AWp.seq ?_
     refine W.kp [0, 2, 3, 4, 5, 17, 35] ?_
     refine AWp.region ?_
     refine L.Y (Y.bd Tryd.underlying24 Y24 P24) ?_
     refine L.S (S.stb Y24) ?_
     refine L.Y Y.asg ?_
     refine AList.nil ?_
     simp only [Option.some.injEq, Prod.mk.injEq] at h
     obtain ⟨rfl, rfl, rfl, rfl⟩ := h
     refine AWp.ret ?_
     exact ⟨.inr rfl, _, _, _, Res.c2 Tryd.underlying24 Y24, ⟨rfl, rfl⟩, PartV.at [(3, 1)] [5] base0 (H.c .nil)⟩
    ·
     have hb7 := hb
     try simp only [hS, hE, ne_eq] at hb
     first | rw [if_pos hb7] at h | rw [if_neg (Bool.eq_false_iff.1 hb7)] at h | rw [if_pos hb] at h | rw [if_neg hb] at h | (simp only [hb, hT, reduceIte] at h) | skip
     refine L.Gs hb7 (S.ldN Tryd.underlying24 Y24) ?_
     replace h := Option.bind_eq_some_iff.1 h
     obtain ⟨t169, hc9, h⟩ := h
     refine L.GC hb7 (C.callE (l := true) [] Tryd.func16 (impl_tableText.ac _ _ _ _ _ hc9) .nil ?_)
     refine L.Gy hb7 Y.mv ?_
     refine L.Gy hb7 Y.bin ?_
     refine L.Y (Y.pk (c := false) hb7) ?_
     refine AList.nil ?_
     refine W.cond (fun hb => ?_) (fun hb => ?_)
     ·
      have hb10 := hb
      try simp only [hS, hE, ne_eq] at hb
      first | rw [if_pos hb10] at h | rw [if_neg (Bool.eq_false_iff.1 hb10)] at h | rw [if_pos hb] at h | rw [if_neg hb] at h | (simp only [hb, hT, reduceIte] at h) | skip
      refine AWp.seq ?_
      refine W.kp [0, 2, 3, 4, 5, 17, 35] ?_
      refine AWp.region ?_
      refine L.Y (Y.bd Tryd.underlying24 Y24 P24) ?_
      refine L.S (S.stb Y24) ?_
      refine L.Y Y.asg ?_
      refine AList.nil ?_
      simp only [Option.some.injEq, Prod.mk.injEq] at h
      obtain ⟨rfl, rfl, rfl, rfl⟩ := h
      refine AWp.ret ?_
      exact ⟨.inr rfl, _, _, _, Res.c2 Tryd.underlying24 Y24, ⟨rfl, rfl⟩, PartV.at [(3, 1)] [5] base0 (H.c .nil)⟩
     ·
      have hb10 := hb
      try simp only [hS, hE, ne_eq] at hb
      first | rw [if_pos hb10] at h | rw [if_neg (Bool.eq_false_iff.1 hb10)] at h | rw [if_pos hb] at h | rw [if_neg hb] at h | (simp only [hb, hT, reduceIte] at h) | skip
      refine AWp.skip ?_
      refine AWp.seq ?_
      refine W.kp [0, 2, 3, 4, 5, 17, 35] ?_
      refine AWp.region ?_
      refine L.S (S.ldN Tryd.underlying24 Y24) ?_
      refine L.S (S.stb Y24) ?_
      refine L.Y Y.asg ?_
      refine AList.nil ?_
      simp only [Option.some.injEq, Prod.mk.injEq] at h
      obtain ⟨rfl, rfl, rfl, rfl⟩ := h
      refine AWp.ret ?_
      exact ⟨.inr rfl, _, _, _, Res.c2 Tryd.underlying24 Y24, ⟨rfl, rfl⟩, PartV.at [] [3] base0 (H.c .nil)⟩

end Go.Proofs.YtikhopopiaanmaaDoor.PFnExactParseTable
