-- Written by a program of this session's (wip/myprint2): the functions by the kit's print, the walks by awgen.py. Lean checks it.
import Derived.Test.YtakabmokpknknaaPFnBiordersHaveScalesx0
namespace Go.Proofs.Ytakabmokpknknaa.PFnBiordersHaveScales
open Go.RowKit Go.Proofs.YtakabmokpknknaaW.PrintWords Go.Proofs.YtakabmokpknknaaW.PrintLast Go.Proofs.YtakabmokpknknaaW.PrintMore Go.Proofs.YtakabmokpknknaaM Go.Proofs.YtakabmokpknknaaA
attribute [local go_sem] max2_int min2_int max_two min_two max_three min_three max_four min_four   -- for this text's walks alone
set_option linter.unusedVariables false
set_option linter.unusedSimpArgs false

/-! ### impl_different: function 45 -/
attribute [local go_sem] Oper.semAt_some

def impl_different.upto {α : Type} (f : Nat → α) (k : Nat) : List α := (List.range k).map f
theorem impl_different.upto_succ {α : Type} (f : Nat → α) (k : Nat) : impl_different.upto f (k + 1) = impl_different.upto f k ++ [f k] := by simp [impl_different.upto, List.range_succ]
theorem impl_different.upto_length {α : Type} (f : Nat → α) (k : Nat) : (impl_different.upto f k).length = k := by simp [impl_different.upto]
theorem impl_different.upto_all (zs : List Int) : impl_different.upto (fun j => zs[j]?.getD 0) zs.length = zs := by
 apply List.ext_getElem
 ·
  simp [impl_different.upto]
 ·
  intro i h1 h2
  simp [impl_different.upto, h2]
theorem impl_different.upto_take (zs : List Int) {k : Nat} (hk : k ≤ zs.length) : impl_different.upto (fun j => zs[j]?.getD 0) k = zs.take k := by
 apply List.ext_getElem
 ·
  simp [impl_different.upto, hk]
 ·
  intro i h1 h2
  have : i < zs.length := by simp [impl_different.upto] at h1; omega
  simp [impl_different.upto, this]

set_option maxRecDepth 100000 in
set_option maxHeartbeats 2000000 in
/-- What the iterator over a row of numbers does, for whatever loop body that keeps what lay below n₀. -/
theorem impl_different.values1_in (F : Fence) (n : Nat) (h7 : F.fn 66) (hro : F.round = none) (hn : 1 ≤ n) (l Bs n₀ b off len cap : Nat) (zs : List Int) (hreach : len * 8 ≤ 140737488355328) (hb : b < n₀) (J Jx : List Int → World → Prop)
  (hY : ∀ pre x W, J pre W → pre.length < len → YieldAt F (n - 1) Try.prog l #[.int .i64 x] W fun e W' =>
   (e = .returned (.bool true) ∧ J (pre ++ [x]) W' ∧ Below n₀ W W') ∨ (e = .returned (.bool false) ∧ Jx (pre ++ [x]) W'))
  (W : World) (hBs : W.cell? ⟨Bs, 0, none⟩ = some (.slice (some ⟨b, off, none⟩) len cap)) (hc : ∀ j, j < len → W.cell? ⟨b, off + j, none⟩ = some (.int .i64 (zs[j]?.getD 0))) (h0 : J [] W) :
  CallsIn F n Try.prog 66 #[.func (.yield l) #[] #[], .pointer (some ⟨Bs, 0, none⟩)] W fun e W' => (∃ v, e = .returned v) ∧
   ((∃ ys, ys = impl_different.upto (fun j => zs[j]?.getD 0) len ∧ J ys W') ∨ (∃ pre, (∃ k, k ≤ len ∧ pre = impl_different.upto (fun j => zs[j]?.getD 0) k) ∧ Jx pre W')) := by
 refine callsIn_of_wp Try.func66 rfl h7 ?_ hro
 simp only [Try.ntmps66, List.size_toArray, List.length_cons, List.length_nil, Nat.reduceAdd, Nat.reduceSub, Array.replicate_succ, Array.replicate_zero, List.push_toArray, List.append_toArray, List.nil_append, List.cons_append]
 gi_wp2
 gi_loopw [7] (fun i wr => ∃ k : Nat, k ≤ len ∧ i = .int .i64 k ∧ J (impl_different.upto (fun j => zs[j]?.getD 0) k) wr ∧ Below n₀ W wr)
  (fun i _ => len - (intOf i).toNat)
 case atStart => exact ⟨0, Nat.zero_le _, rfl, h0, Below.refl _ _⟩
 case round =>
  obtain ⟨k, hk, rfl, hJs, hnx⟩ := hrel
  have hcx : k < len → wr.cell? ⟨b, off + k, none⟩ = some (.int .i64 (zs[k]?.getD 0)) := fun h => (hnx.cell (p := ⟨b, off + k, none⟩) hb).trans (hc k h)
  by_cases hlt : k < len
  ·
   obtain ⟨fn, tmps, assign, body, hy, hR⟩ := hY _ (zs[k]?.getD 0) wr hJs (by rw [impl_different.upto_length]; exact hlt)
   have hcx' := hcx hlt
   gi_wp2
   refine hR.mono ?_
   rintro e W3 (⟨rfl, hJ3, hk3⟩ | ⟨rfl, hJx3⟩)
   ·
    gi_wp2
    go_roundw
    case rel => exact ⟨k + 1, by omega, by simp, by rw [impl_different.upto_succ]; exact hJ3, hnx.trans hk3⟩
    case measure => simp [intOf]; omega
   ·
    gi_wp2
    refine bodyPost_ret (results_none rfl _ _ _) rfl ?_
    exact ⟨⟨_, rfl⟩, .inr ⟨_, ⟨k + 1, by omega, (impl_different.upto_succ _ _).symm⟩, hJx3⟩⟩
  ·
   obtain rfl : k = len := by omega
   gi_wp2
   go_end0
   exact ⟨⟨_, rfl⟩, .inl ⟨_, rfl, hJs⟩⟩

/-- The value holds the numbers, in a block below n₀; or it is nil and there are none. -/
def impl_different.Ints (n₀ : Nat) (W : World) (sv : Value) (zs : List Int) : Prop :=
 (∃ p cap, sv = .slice p 0 cap ∧ zs = []) ∨ ∃ b off cap, sv = .slice (some ⟨b, off, none⟩) zs.length cap ∧ b < n₀ ∧ ∀ j, j < zs.length → W.cell? ⟨b, off + j, none⟩ = some (.int .i64 (zs[j]?.getD 0))
theorem impl_different.Ints.below {n₀ : Nat} {A B : World} (h : Below n₀ A B) {sv : Value} {zs : List Int} : impl_different.Ints n₀ A sv zs → impl_different.Ints n₀ B sv zs
 | .inl e => .inl e
 | .inr ⟨b, off, cap, e, hb, hc⟩ => .inr ⟨b, off, cap, e, hb, fun j hj => (h.cell (p := ⟨b, off + j, none⟩) hb).trans (hc j hj)⟩

set_option maxRecDepth 100000 in
set_option maxHeartbeats 1000000 in
theorem impl_different.values1_nil_in (F : Fence) (n : Nat) (h7 : F.fn 66) (hro : F.round = none) (l Bs : Nat) (J : List Int → World → Prop) (W : World) (p : Option Addr) (cap : Nat) (hBs : W.cell? ⟨Bs, 0, none⟩ = some (.slice p 0 cap)) (h0 : J [] W) :
  CallsIn F n Try.prog 66 #[.func (.yield l) #[] #[], .pointer (some ⟨Bs, 0, none⟩)] W fun e W' => (∃ v, e = .returned v) ∧ J [] W' := by
 refine callsIn_of_wp Try.func66 rfl h7 ?_ hro
 simp only [Try.ntmps66, List.size_toArray, List.length_cons, List.length_nil, Nat.reduceAdd, Nat.reduceSub, Array.replicate_succ, Array.replicate_zero, List.push_toArray, List.append_toArray, List.nil_append, List.cons_append]
 gi_wp2
 gi_loopw [7] (fun i wr => i = .int .i64 0 ∧ J [] wr) (fun _ _ => 0)
 case atStart => exact ⟨rfl, h0⟩
 case round =>
  obtain ⟨rfl, hJs⟩ := hrel
  gi_wp2
  go_end0
  exact ⟨⟨_, rfl⟩, hJs⟩

theorem impl_different.values_stops (F : Fence) (n : Nat) (h7 : F.fn 66) (hro : F.round = none) (hn : 1 ≤ n) (Bs n₀ : Nat) (sv : Value) (zs : List Int) (hreach : zs.length * 8 ≤ 140737488355328) (w : World) (hBs : Bs < w.heap.size) (hn₀ : n₀ ≤ w.heap.size)
  (hc : w.cell? ⟨Bs, 0, none⟩ = some sv) (hI : impl_different.Ints n₀ w sv zs) :
  SeqStopsK F n Try.prog 66 #[.pointer (some ⟨Bs, 0, none⟩)] (fun x : Int => #[Value.int .i64 x]) (Below n₀) (fun ys => ys = zs) (fun pre => pre <+: zs) zs.length w := fun l J Jx W hW _ _ hY h0 => by
 have hc' := (hW.cell (p := ⟨Bs, 0, none⟩) hBs).trans hc
 rcases hI.below (hW.mono hn₀) with ⟨p, cap, rfl, rfl⟩ | ⟨b, off, cap, rfl, hb, hcs⟩
 ·
  exact (impl_different.values1_nil_in F n h7 hro l Bs J W p cap hc' h0).mono fun e W' ⟨he, hj⟩ => ⟨he, .inl ⟨_, rfl, hj⟩⟩
 ·
  refine (impl_different.values1_in F n h7 hro hn l Bs n₀ b off zs.length cap zs hreach hb J Jx hY W hc' hcs h0).mono ?_
  rintro e W' ⟨he, ⟨ys, rfl, hj⟩ | ⟨pre, ⟨k, hk, rfl⟩, hj⟩⟩
  ·
   exact ⟨he, .inl ⟨_, impl_different.upto_all zs, hj⟩⟩
  ·
   exact ⟨he, .inr ⟨_, by rw [impl_different.upto_take zs hk]; exact List.take_prefix _ _, hj⟩⟩

theorem impl_different.info3 : (Try.prog.info? 3).map (fun i => (i.zero, i.size, i.bytes)) = some (some (.int .i64 0), 1, 8) := by kernel_rfl

set_option maxRecDepth 100000 in
set_option maxHeartbeats 2000000 in
/-- What is collected is what the row held. -/
theorem impl_different.appendSeq_in (F : Fence) (n : Nat) (h67 : F.fn 67) (h66 : F.fn 66) (hro : F.round = none) (hn : 3 ≤ n) (Bs : Nat) (sv : Value) (zs : List Int) (hlen : zs.length ≤ maxLen) (hbytes : zs.length * 8 ≤ 140737488355328) (w : World)
  (hBs : Bs < w.heap.size) (hc : w.cell? ⟨Bs, 0, none⟩ = some sv) (hI : impl_different.Ints w.heap.size w sv zs) :
  CallsIn F n Try.prog 67 #[.slice none 0 0, .func (.func 66) #[] #[.pointer (some ⟨Bs, 0, none⟩)]] w fun e W' => ∃ v, e = .returned v ∧ W'.ownsRow w.heap.size 3 1 v zs.length (zs.map (Value.int .i64)) ∧ (v = .slice none 0 0 ↔ zs = []) ∧ Below w.heap.size w W' := by
 have h1 : 1 ≤ n := by omega
 obtain ⟨i0, hi, hz0, hz1, hz2⟩ := info_parts impl_different.info3
 refine callsIn_of_wp_marks Try.func67 rfl h67 ?_ hro
 simp only [Try.ntmps67, List.size_toArray, List.length_cons, List.length_nil, Nat.reduceAdd, Nat.reduceSub, Array.replicate_succ, Array.replicate_zero, List.push_toArray, List.append_toArray, List.nil_append, List.cons_append]
 gi_wp2
 have bO := Boxed.new w 22 (.slice none 0 0)
 have hB0 : Below w.heap.size w (w.alloc (.cells #[.slice none 0 0] 22)) := (Below.refl _ w).alloc (Nat.le_refl _) _
 refine wpIn_rangeFunc_ownG hro h1 (gf := 66) (lb := #[.pointer (some ⟨Bs, 0, none⟩)]) rfl h66 (enters_of Try.func66 (by kernel_rfl) rfl)
  (impl_different.values_stops F (n - 1) h66 hro (by omega) Bs w.heap.size sv zs hbytes _ (by simp; omega) (by simp) ((hB0.cell (p := ⟨Bs, 0, none⟩) hBs).trans hc) (hI.below hB0)) belowK_t (belowK_b (by simp)) (Below.refl _ _) (fun _ => rfl)
  (fun pre W => (∃ v, Boxed W w.heap.size 22 v ∧ W.ownsRow w.heap.size 3 1 v pre.length (pre.map (Value.int .i64)) ∧ (v = .slice none 0 0 ↔ pre = [])) ∧ Below w.heap.size w W)
  (fun _ _ _ => False)
  (OwnFrom.and (Own.from (holdsRow_own w.heap.size w.heap.size 22 3 1 (fun pre => pre.length) (fun pre => pre.map (Value.int .i64)) (fun pre v => v = .slice none 0 0 ↔ pre = [])) _) (ownFrom_below (Nat.le_refl _) (by simp)))
  (fun _ _ _ _ _ hs _ _ => hs)
  ⟨⟨_, bO, World.ownsRow_nil _ _ _ _, by simp⟩, hB0⟩
  (fun x => { tmps := #[.slice none 0 0, .func (.func 66) #[] #[.pointer (some ⟨Bs, 0, none⟩)], .pointer (some ⟨w.heap.size, 0, none⟩), undef, .slice none 0 0, .int .i64 x, .func (.func 66) #[] #[.pointer (some ⟨Bs, 0, none⟩)], .int .i64 x, undef, undef, undef, undef, undef], defers := [] }) ?assign ?body ?done ?stop
 case assign =>
  intro l x W K hK
  gi_wp2
  exact hK
 case body =>
  rintro l pre x W ⟨⟨v, hv, hrow, hnil⟩, hB⟩ hlt
  have hc := hv.cell
  gi_wp2_with (gi_at_builtin; refine wpListIn_append_own _ rfl _ _ 22 rfl w.heap.size 3 i0 (.int .i64 0) 1 8 Try.underlying22 hi hz0 hz1 hz2 rfl (by decide) _ _ _ rfl (hrow.alloc _) ⟨W.heap.size, 0, none⟩ 1 1 [.int .i64 x] rfl rfl (cell_one_new _ _ _) (by simp [Value.oneCell']) (by omega) (by omega) (by have := hB.size; simp; omega) ?_; intro v' w1 hown' hgrow _; obtain ⟨g', cap', rfl⟩ := ownsRow_succ hown'; obtain ⟨hv1, hv2, hr2, hk2, hb2⟩ := hv.appended (by decide) hrow hB.size (Nat.le_refl _) hown' hgrow; have hc1 := hv1.cell; have hf1 := hv1.frozen)
  exact ⟨hk2.from _, hb2, ⟨_, hv2, by simpa using hr2, by simp⟩, hB.trans hb2⟩
 case done =>
  rintro D ys W hD rfl ⟨⟨v, hv, hrow, hnil⟩, hB⟩ hK
  have hc := hv.cell
  gi_wp2
  refine ⟨by simp, .inl ⟨_, _, rfl, run_takeDeferred hK, ?_⟩⟩
  exact ⟨_, results_tmp rfl _ _ _, v, rfl, ownsRow_putObj hrow _ hK rfl, hnil, hB.trans (belowK_b (w := w) (Nat.le_refl _) W D _ _ (by simp at hD; omega) hK rfl rfl)⟩
 case stop =>
  rintro D c pre W _ _ h _
  exact h.elim
def impl_different.sortR : Go.Shelf.Ren := ⟨fun | 189 => 65 | 125 => 69 | 257 => 68 | 128 => 79 | 129 => 80 | 294 => 70 | 295 => 71 | 296 => 72 | 297 => 73 | 298 => 74 | 299 => 75 | 216 => 76 | 300 => 77 | 301 => 78 | 328 => 81 | 329 => 82 | 330 => 83 | 331 => 84 | 332 => 85 | 215 => 86 | 343 => 87 | n => n, fun | 28 => 22 | 3 => 3 | 46 => 75 | 0 => 0 | 51 => 87 | 53 => 63 | 4 => 4 | 183 => 81 | 182 => 80 | 131 => 84 | 5 => 5 | 9 => 9 | 218 => 89 | 222 => 93 | 228 => 95 | 229 => 96 | n => n, fun | n => n⟩
theorem impl_different.sortL : Go.Proofs.Lays.n189 Try.prog impl_different.sortR := {
 mixed := by kernel_rfl
 f125 := Try.func69.trans (congrArg some (by kernel_rfl))
 f128 := Try.func79.trans (congrArg some (by kernel_rfl))
 f129 := Try.func80.trans (congrArg some (by kernel_rfl))
 f189 := Try.func65.trans (congrArg some (by kernel_rfl))
 f215 := Try.func86.trans (congrArg some (by kernel_rfl))
 f216 := Try.func76.trans (congrArg some (by kernel_rfl))
 f257 := Try.func68.trans (congrArg some (by kernel_rfl))
 f294 := Try.func70.trans (congrArg some (by kernel_rfl))
 f295 := Try.func71.trans (congrArg some (by kernel_rfl))
 f296 := Try.func72.trans (congrArg some (by kernel_rfl))
 f297 := Try.func73.trans (congrArg some (by kernel_rfl))
 f298 := Try.func74.trans (congrArg some (by kernel_rfl))
 f299 := Try.func75.trans (congrArg some (by kernel_rfl))
 f300 := Try.func77.trans (congrArg some (by kernel_rfl))
 f301 := Try.func78.trans (congrArg some (by kernel_rfl))
 f328 := Try.func81.trans (congrArg some (by kernel_rfl))
 f329 := Try.func82.trans (congrArg some (by kernel_rfl))
 f330 := Try.func83.trans (congrArg some (by kernel_rfl))
 f331 := Try.func84.trans (congrArg some (by kernel_rfl))
 f332 := Try.func85.trans (congrArg some (by kernel_rfl))
 f343 := Try.func87.trans (congrArg some (by kernel_rfl))
 t0 := Try.underlying0
 a0 := Try.isAgg0
 z0 := Try.sizeOf0
 v0 := Try.zeroValue0
 t3 := Try.underlying3
 a3 := Try.isAgg3
 z3 := Try.sizeOf3
 v3 := Try.zeroValue3
 t4 := Try.underlying4
 a4 := Try.isAgg4
 z4 := Try.sizeOf4
 v4 := Try.zeroValue4
 t5 := Try.underlying5
 a5 := Try.isAgg5
 z5 := Try.sizeOf5
 v5 := Try.zeroValue5
 t9 := Try.underlying9
 a9 := Try.isAgg9
 z9 := Try.sizeOf9
 v9 := Try.zeroValue9
 t28 := Try.underlying22
 a28 := Try.isAgg22
 z28 := Try.sizeOf22
 v28 := Try.zeroValue22
 t46 := Try.underlying75
 a46 := Try.isAgg75
 z46 := Try.sizeOf75
 v46 := Try.zeroValue75
 t51 := Try.underlying87
 a51 := Try.isAgg87
 z51 := Try.sizeOf87
 v51 := Try.zeroValue87
 t53 := Try.underlying63
 a53 := Try.isAgg63
 z53 := Try.sizeOf63
 v53 := Try.zeroValue63
 t131 := Try.underlying84
 a131 := Try.isAgg84
 z131 := Try.sizeOf84
 v131 := Try.zeroValue84
 t182 := Try.underlying80
 a182 := Try.isAgg80
 z182 := Try.sizeOf80
 v182 := Try.zeroValue80
 t183 := Try.underlying81
 a183 := Try.isAgg81
 z183 := Try.sizeOf81
 v183 := Try.zeroValue81
 t218 := Try.underlying89
 a218 := Try.isAgg89
 z218 := Try.sizeOf89
 v218 := Try.zeroValue89
 t222 := Try.underlying93
 a222 := Try.isAgg93
 z222 := Try.sizeOf93
 v222 := Try.zeroValue93
 t228 := Try.underlying95
 a228 := Try.isAgg95
 z228 := Try.sizeOf95
 v228 := Try.zeroValue95
 t229 := Try.underlying96
 a229 := Try.isAgg96
 z229 := Try.sizeOf96
 v229 := Try.zeroValue96 }
def impl_different.compactR : Go.Shelf.Ren := ⟨fun | 20 => 59 | n => n, fun | 22 => 22 | 3 => 3 | 4 => 4 | 0 => 0 | n => n, fun | n => n⟩
theorem impl_different.compactL : Go.Proofs.Lays2.n20 Try.prog impl_different.compactR := {
 mixed := by kernel_rfl
 f20 := Try.func59.trans (congrArg some (by kernel_rfl))
 t0 := Try.underlying0
 a0 := Try.isAgg0
 z0 := Try.sizeOf0
 v0 := Try.zeroValue0
 t3 := Try.underlying3
 a3 := Try.isAgg3
 z3 := Try.sizeOf3
 v3 := Try.zeroValue3
 t4 := Try.underlying4
 a4 := Try.isAgg4
 z4 := Try.sizeOf4
 v4 := Try.zeroValue4
 t22 := Try.underlying22
 a22 := Try.isAgg22
 z22 := Try.sizeOf22
 v22 := Try.zeroValue22
 i3 := by kernel_rfl }
set_option maxHeartbeats 1000000 in
theorem impl_different.collect_c (Bs : Nat) (sv : Value) (zs : List Int) (hlen : zs.length ≤ maxLen) (hbytes : zs.length * 8 ≤ 140737488355328) (w : World) (hBs : Bs < w.heap.size) (hc : w.cell? ⟨Bs, 0, none⟩ = some sv) (hI : impl_different.Ints w.heap.size w sv zs) :
  Calls Try.prog 64 #[.func (.func 66) #[] #[.pointer (some ⟨Bs, 0, none⟩)]] w fun e W' => ∃ v, e = .returned v ∧ W'.ownsRow w.heap.size 3 1 v zs.length (zs.map (Value.int .i64)) ∧ (v = .slice none 0 0 ↔ zs = []) ∧ Below w.heap.size w W' := by
 have cA := (callsIn_wide (n := 6)).1 (impl_different.appendSeq_in Fence.wide 6 trivial trivial rfl (by omega) Bs sv zs hlen hbytes w hBs hc hI)
 go_enter Try.func64, Try.ntmps64
 go_wp2_with (go_at_call 67; refine cA.mono ?_; rintro e W' ⟨v, rfl, hrow, hnil, hb⟩)
 go_ret
 exact ⟨v, rfl, hrow, hnil, hb⟩
set_option maxHeartbeats 1000000 in
theorem impl_different.sorted_c (Bs : Nat) (sv : Value) (zs : List Int) (hlen : zs.length ≤ maxLen) (hbytes : zs.length * 8 ≤ 140737488355328) (w : World) (hBs : Bs < w.heap.size) (hc : w.cell? ⟨Bs, 0, none⟩ = some sv) (hI : impl_different.Ints w.heap.size w sv zs) :
  Calls Try.prog 60 #[.func (.func 66) #[] #[.pointer (some ⟨Bs, 0, none⟩)]] w fun e W' => ∃ v, e = .returned v ∧ W'.ownsRow w.heap.size 3 1 v zs.length ((zs.mergeSort fun x y => decide (x ≤ y)).map (Value.int .i64)) ∧ Below w.heap.size w W' := by
 have cC := impl_different.collect_c Bs sv zs hlen hbytes w hBs hc hI
 go_enter Try.func60, Try.ntmps60
 go_wp2_with (go_at_call 64; refine cC.mono ?_; rintro e W' ⟨v, rfl, hrow, hnil, hb⟩)
 rcases hrow.2 with ⟨rfl, hz⟩ | ⟨gb, cap, cur, rfl, hbase, hgb, r1, r2, r3, r4⟩
 ·
  have hz0 : zs = [] := List.eq_nil_of_length_eq_zero hz
  subst hz0
  have cN := Any.slices_Sort_int_none impl_different.sortL none 0 W'
  go_wp2_with (go_at_call 65; refine cN.mono ?_; rintro e w' ⟨rfl, rfl⟩)
  go_ret
  exact ⟨.slice none 0 0, rfl, by simpa using hrow, hb⟩
 ·
  have hH : Go.Sort.Holds (Value.int .i64) W' gb 0 zs.toArray := Go.holds_of_blockI hgb (by simpa using r4)
  have hgl : gb < W'.heap.size := (Array.getElem?_eq_some_iff.1 hgb).1
  have cS := Any.slices_Sort_int impl_different.sortL gb 0 cap zs W' hH hgl (by omega)
  go_wp2_with (go_at_call 65; refine cS.mono ?_; rintro e w' ⟨rfl, nn, os, rfl⟩)
  go_ret
  exact ⟨_, rfl, Go.ownsRow_sortedI (by simp) hbase hgb r1 r2 r3, hb.grown (Go.grownBy_sortedI _) hb.size (fun j hj => by cases hj; exact hbase)⟩
theorem impl_different.compact_le (zs : List Int) : (Lib.compact zs).length ≤ zs.length := by
 unfold Lib.compact Lib.compactUpTo
 rw [List.length_map]
 exact Nat.le_trans (List.length_filter_le _ _) (by simp)
/-- A row that is owned, and lies ahead of where it is said to lie. -/
theorem impl_different.own_base {w : World} {b base : Nat} {e : TypeId} {size n : Nat} {v : Value} {xs : List Value} (h : w.ownsRow b e size v n xs) (hle : base ≤ b) : w.ownsRow base e size v n xs := by
 refine ⟨h.1, ?_⟩
 rcases h.2 with h | ⟨g, cap, cur, h1, h2, h3⟩
 ·
  exact .inl h
 ·
  exact .inr ⟨g, cap, cur, h1, Nat.le_trans hle h2, h3⟩
set_option maxHeartbeats 1000000 in
theorem impl_different.different_c (a : Option Addr) (len cap : Nat) (zs : List Int) (hlen : zs.length ≤ maxLen) (hbytes : zs.length * 8 ≤ 140737488355328) (w : World) (hI : impl_different.Ints w.heap.size w (.slice a len cap) zs) :
  Calls Try.prog 45 #[.slice a len cap] w fun e W' => ∃ v, e = .returned v ∧ W'.ownsRow w.heap.size 3 1 v (Lib.compact (zs.mergeSort fun x y => decide (x ≤ y))).length ((Lib.compact (zs.mergeSort fun x y => decide (x ≤ y))).map (Value.int .i64)) ∧ Below w.heap.size w W' := by
 have hb0 : Below w.heap.size w (w.alloc (.cells #[.slice a len cap] 22)) := (Below.refl _ w).alloc (Nat.le_refl _) _
 have hc0 : (w.alloc (.cells #[.slice a len cap] 22)).cell? ⟨w.heap.size, 0, none⟩ = some (.slice a len cap) := (Boxed.new w 22 (.slice a len cap)).cell
 have hI0 : impl_different.Ints (w.alloc (.cells #[.slice a len cap] 22)).heap.size (w.alloc (.cells #[.slice a len cap] 22)) (.slice a len cap) zs := by
  rcases hI.below hb0 with h | ⟨b, off, cap', h1, h2, h3⟩
  ·
   exact .inl h
  ·
   exact .inr ⟨b, off, cap', h1, by simp; omega, h3⟩
 have cV : Calls Try.prog 61 #[.slice a len cap] w fun e W' => e = .returned (.func (.func 66) #[] #[.pointer (some ⟨w.heap.size, 0, none⟩)]) ∧ W' = w.alloc (.cells #[.slice a len cap] 22) := by
  go_enter Try.func61, Try.ntmps61
  go_wp2
  go_ret
  exact ⟨rfl, rfl⟩
 have cS := impl_different.sorted_c w.heap.size (.slice a len cap) zs hlen hbytes (w.alloc (.cells #[.slice a len cap] 22)) (by simp) hc0 hI0
 go_enter Try.func45, Try.ntmps45
 go_wp2_with (first
  | (go_at_call 61; refine cV.mono ?_; rintro e W' ⟨rfl, rfl⟩)
  | (go_at_call 60; refine cS.mono ?_; rintro e W2 ⟨v, rfl, hrow, hb⟩))
 have hbb : Below w.heap.size w W2 := hb0.trans (hb.mono (by simp))
 rcases hrow.2 with ⟨rfl, hz⟩ | ⟨gb, cp, cur, rfl, hbase, hgb, r1, r2, r3, r4⟩
 ·
  have hz0 : zs = [] := List.eq_nil_of_length_eq_zero hz
  subst hz0
  have cE := Any.slices_Compact_int_empty impl_different.compactL none 0 W2
  go_wp2_with (go_at_call 59; refine cE.mono ?_; rintro e w' ⟨rfl, rfl⟩)
  go_ret
  exact ⟨.slice none 0 0, rfl, by simpa [Lib.compact, Lib.compactUpTo] using World.ownsRow_nil _ _ _ _, hbb⟩
 ·
  have hml : (zs.mergeSort fun x y => decide (x ≤ y)).length = zs.length := by simp
  have hH : Go.Sort.Holds (Value.int .i64) W2 gb 0 (zs.mergeSort fun x y => decide (x ≤ y)).toArray := Go.holds_of_blockI hgb (by rw [hml]; simpa using r4)
  have cE := Any.slices_Compact_int impl_different.compactL gb 0 cp (zs.mergeSort fun x y => decide (x ≤ y)) W2 hH (by rw [hml]; simp only [maxLen] at hlen; omega) (by rw [hml]; exact r1)
  rw [hml] at cE
  go_wp2_with (go_at_call 59; refine cE.mono ?_; rintro e w' ⟨rfl, q, rfl⟩)
  go_ret
  have hcl := impl_different.compact_le (zs.mergeSort fun x y => decide (x ≤ y))
  rw [hml] at hcl
  have hbase' : w.heap.size ≤ gb := by simp at hbase; omega
  have hl : (Lib.compact (zs.mergeSort fun x y => decide (x ≤ y)) ++ List.replicate (zs.length - (Lib.compact (zs.mergeSort fun x y => decide (x ≤ y))).length) 0).length = zs.length := by simp; omega
  have hown := Go.ownsRow_sortedI (n := q) (os := #[]) (base := w.heap.size) (ss := zs) hl hbase' hgb r1 r2 r3
  have hg := Go.grownBy_sortedI (w := W2) (g := gb) (n := q) (os := #[]) (Lib.compact (zs.mergeSort fun x y => decide (x ≤ y)) ++ List.replicate (zs.length - (Lib.compact (zs.mergeSort fun x y => decide (x ≤ y))).length) 0).toArray
  rw [Go.Sort.grow_empty] at hown hg
  refine ⟨_, rfl, ?_, hbb.grown hg hbb.size (fun j hj => by cases hj; exact hbase')⟩
  refine ⟨by simp, .inr ?_⟩
  rcases hown.2 with ⟨h, _⟩ | ⟨g2, cap2, cur2, h1, h2, h3, h4, h5, h6, h7⟩
  ·
   cases h
  ·
   simp only [Value.slice.injEq, Option.some.injEq, Addr.mk.injEq, and_true, true_and] at h1
   obtain ⟨rfl, rfl⟩ := h1
   refine ⟨gb, cp, cur2, rfl, h2, h3, by omega, h5, h6, ?_⟩
   have := congrArg (List.take (Lib.compact (zs.mergeSort fun x y => decide (x ≤ y))).length) h7
   rw [List.take_take, Nat.min_eq_left (by omega), List.map_append, List.take_left' (by simp)] at this
   rw [Nat.mul_one]
   exact this
def impl_different.f (l0 : List Int) : Option (List Int) := if l0.length * 8 ≤ 140737488355328 then some (Lib.compact (l0.mergeSort fun x y => decide (x ≤ y))) else none
theorem impl_different.ac (l0 : List Int) (r : List Int) (h : impl_different.f l0 = some r) : ACalls Try.prog 45 [.row 1 l0.length false (ints .i64 l0)] [] (fun v H' => v = .own 0 r.length ∧ H' = [.sl 3 1 r.length false (ints .i64 r)]) := by
 unfold impl_different.f at h
 by_cases hb : l0.length * 8 ≤ 140737488355328
 ·
  rw [if_pos hb] at h
  injection h with h
  subst h
  intro R F A w vs hi hvs
  match vs, hvs with
  | [], hvs => simp [VRs] at hvs
  | [c], hvs =>
   simp only [VRs, and_true] at hvs
   have hlen : l0.length ≤ maxLen := by simp only [maxLen]; omega
   have key : ∀ (a : Option Addr) (cap : Nat), impl_different.Ints w.heap.size w (.slice a l0.length cap) l0 → Calls Try.prog 45 #[.slice a l0.length cap] w (CallPost (fun v H' => v = .own 0 (Lib.compact (l0.mergeSort fun x y => decide (x ≤ y))).length ∧ H' = [.sl 3 1 (Lib.compact (l0.mergeSort fun x y => decide (x ≤ y))).length false (ints .i64 (Lib.compact (l0.mergeSort fun x y => decide (x ≤ y))))]) R F A [] w) := by
    intro a cap hI
    refine (impl_different.different_c a l0.length cap l0 hlen hb w hI).mono ?_
    rintro e w' ⟨v, rfl, hrow, hbl⟩
    exact CallPost.fresh hi rfl hrow hbl (fun _ _ _ _ => VRs_ints _ _)
   rcases VR.ints_cells hvs with ⟨rfl, h0⟩ | ⟨p, cap, rfl, hcap, hcell⟩
   ·
    have := key none 0 (.inl ⟨none, 0, by rw [h0]; rfl, h0⟩)
    rw [h0] at this ⊢
    exact this
   ·
    refine key (some p) cap ?_
    by_cases hp : 0 < l0.length
    ·
     obtain ⟨b, off, rfl, hR, hcc⟩ := hcell hp
     exact .inr ⟨b, off, cap, rfl, hi.rlt b hR, fun j hj => by rw [hcc j hj, List.getD_eq_getElem?_getD]⟩
    ·
     have h0 : l0 = [] := List.eq_nil_of_length_eq_zero (by omega)
     exact .inl ⟨some p, cap, by rw [h0]; rfl, h0⟩
  | _ :: _ :: _, hvs => simp [VRs] at hvs
 ·
  rw [if_neg hb] at h
  cases h

/-! ### slices_Max_int_int: function 46 -/
def slices_Max_int_int.ren : Go.Shelf.Ren := ⟨fun | 113 => 46 | n => n, fun | 28 => 22 | 3 => 3 | 4 => 4 | 9 => 9 | 20 => 20 | 0 => 0 | n => n, fun | n => n⟩
theorem slices_Max_int_int.lays : Go.Proofs.Lays.n113 Try.prog slices_Max_int_int.ren := {
 mixed := by kernel_rfl
 f113 := Try.func46.trans (congrArg some (by kernel_rfl))
 t0 := Try.underlying0
 a0 := Try.isAgg0
 z0 := Try.sizeOf0
 v0 := Try.zeroValue0
 t3 := Try.underlying3
 a3 := Try.isAgg3
 z3 := Try.sizeOf3
 v3 := Try.zeroValue3
 t4 := Try.underlying4
 a4 := Try.isAgg4
 z4 := Try.sizeOf4
 v4 := Try.zeroValue4
 t9 := Try.underlying9
 a9 := Try.isAgg9
 z9 := Try.sizeOf9
 v9 := Try.zeroValue9
 t20 := Try.underlying20
 a20 := Try.isAgg20
 z20 := Try.sizeOf20
 v20 := Try.zeroValue20
 t28 := Try.underlying22
 a28 := Try.isAgg22
 z28 := Try.sizeOf22
 v28 := Try.zeroValue22 }
def slices_Max_int_int.f (l0 : List Int) : Option (Int) := if 0 < l0.length ∧ l0.length ≤ 9223372036854775807 then some (Lib.maxOf l0) else none
theorem slices_Max_int_int.ac (l0 : List Int) (r : Int) (h : slices_Max_int_int.f l0 = some r) : ACalls Try.prog 46 [.row 1 l0.length false (ints .i64 l0)] [] (fun v H' => v = .lit (.int .i64 r) ∧ H' = []) := by
 unfold slices_Max_int_int.f at h
 by_cases hb : 0 < l0.length ∧ l0.length ≤ 9223372036854775807
 ·
  rw [if_pos hb] at h
  injection h with h
  subst h
  intro R F A w vs hi hvs
  match vs, hvs with
  | [], hvs => simp [VRs] at hvs
  | [c], hvs =>
   simp only [VRs, and_true] at hvs
   rcases VR.ints_cells hvs with ⟨rfl, h0⟩ | ⟨p, cap, rfl, hcap, hcell⟩
   ·
    rw [h0] at hb
    exact absurd hb.1 (by simp)
   ·
    obtain ⟨b, off, rfl, hR, hcc⟩ := hcell hb.1
    refine (Any.slices_Max_int slices_Max_int_int.lays b off l0.length cap l0 w hb.1 (Nat.le_refl _) hb.2 hcc).mono ?_
    rintro e w' ⟨rfl, rfl⟩
    rw [List.take_length]
    exact CallPost.below hi rfl (Below.refl _ _)
  | _ :: _ :: _, hvs => simp [VRs] at hvs
 ·
  rw [if_neg hb] at h
  cases h

end Go.Proofs.Ytakabmokpknknaa.PFnBiordersHaveScales
