-- The session's own: the walk's logic, second part. Lean checks it.
import Derived.Test.YtdaneldckdjjoaaDoorAA
set_option linter.unusedVariables false
set_option linter.unusedSimpArgs false
namespace Go.Proofs.YtdaneldckdjjoaaDoorA
open Go Go.RowKit
open Go.Proofs.YtdaneldckdjjoaaDoorW.PrintWords (rd bt shl shr)
open Go.Proofs.YtdaneldckdjjoaaDoorW.PrintLast (wpAnyLast wpAnyLast_any wpAnyLast_take wpAnyLast_all wpAnyLast_done wp_region_last Region.closedB Region.lastB)
/-! ### operations, in whatever region they stand -/
def AOp (P : Program) (m N : Nat) (o : Oper) (e : Env) (H : List AO) (K : Env → List AO → Prop) : Prop :=
  ∀ R F A w a (G : Act → World → Prop) (Q : Exit → Act → World → Prop), Inv R F A H w → EnvOk R A H w N e a →
    (∀ a' w' e' H' R' A', K e' H' → Inv R' F A' H' w' → EnvOk R' A' H' w' N e' a' → Stp m R F A H w R' A' H' w' → G a' w') → o.wp P a w G Q

section
variable {P : Program} {m N : Nat} {e : Env} {H : List AO} {K : Env → List AO → Prop} {o : Oper}

theorem AOp.step {v : AV} {H' : List AO} (hs : AStep P N o e H v H') (hn : K (put N e o.dst v) H') : AOp P m N o e H K := by
  intro R F A w a G Q hi he hG
  obtain ⟨c, w', A', hrun, hi', hv, hst⟩ := hs R F A w a hi he
  have hnext : G (a.put o.dst c) w' := hG _ _ _ _ _ _ hn hi' ((he.stp hst).put o.dst hv) hst.any
  unfold Oper.wp
  rcases hrun with hrun | ⟨rfl, hrun⟩
  · rw [hrun]; exact hnext
  · rw [hrun]; exact hnext

theorem AList.opc {ops : Array Oper} {rest : List Oper} (hw : wantA ops e o true) (h : AOp P m N o e H (fun e' H' => AList P m N ops rest e' H' K)) : AList P m N ops (o :: rest) e H K := by
  intro R F A w a G hi he hG
  unfold wpList
  rw [if_pos (by rw [wanted_of hw he])]
  refine .inl (h R F A w a _ _ hi he ?_)
  intro a' w' e' H' R' A' h1 h2 h3 h4
  exact h1 R' F A' w' a' G h2 h3 fun a'' w'' e'' H'' R'' A'' k1 k2 k3 k4 => hG a'' w'' e'' H'' R'' A'' k1 k2 k3 (h4.trans k4)

theorem enters {f : FuncId} {fn : Func} (hf : P.funcs[f]? = some fn) (hname : (fn.name == "runtime.NumGoroutine") = false) (hb : fn.body.isSome = true) (args : Array Value) (w : World) :
    (callFunc f args).run P w = .ok (.enter f args) w := by
  have hb' : fn.body.isNone = false := by simpa using hb
  unfold callFunc
  simp only [Sem.run_bind, run_program, Result.andThen_ok, hf, hname, hb', Bool.false_eq_true, if_false, Sem.run_pure]

theorem evs_append {R A w a} (he : EnvOk R A H w N e a) {xs : List Operand} {caps : List AV} {vs : List Value} (h : VRs R A H w caps vs) : VRs R A H w (xs.map (ev e) ++ caps) (xs.map a.eval ++ vs) :=
  (evs_ok he xs).append h

/-- A call: its objects are a part of the caller's, under the callee's numbers; what else there is is lent (l = true) or kept apart. -/
theorem AOp.call {l : Bool} {x : Operand} {xs : List Operand} {ts : Array TypeId} {f : FuncId} {fn : Func} {caps avs0 : List AV} {H0 : List AO} {Q0 : AV → List AO → Prop} (ρ : List Nat)
    (ho : o.op = .call { callee := .value x, args := xs.toArray, argTypes := ts }) (hx : ev e x = .fn f caps) (hf : P.funcs[f]? = some fn) (hname : (fn.name == "runtime.NumGoroutine") = false) (hb : fn.body.isSome = true)
    (hc : ACalls P f avs0 H0 Q0) (hnd : ρ.Nodup) (hs : SubH l ρ H ρ H0) (ha : Subs l ρ H (xs.map (ev e) ++ caps) avs0)
    (hn : ∀ r H', Q0 r H' → (l = false ∨ (norow r = true ∧ H'.all norowO = true)) ∧ K (put N e o.dst (renV (rho ρ H.length) r)) (mergeH ρ H H')) : AOp P m N o e H K := by
  intro R F A w a G Q hi he hG
  have hvx := he.ev x
  rw [hx] at hvx
  simp only [VR] at hvx
  obtain ⟨vs, hvs, hfx⟩ := hvx
  have hrun : (execOp a.eval o).run P w = .ok (.enter f (xs.map a.eval ++ vs).toArray) w := by
    have := enters hf hname hb (xs.map a.eval ++ vs).toArray w
    unfold execOp
    rw [ho]
    simp only [resolve, hfx, Deferred.ofValue, invoke, Sem.run_bind, Sem.run_pure, Result.andThen_ok, List.map_toArray, Array.empty_append, List.append_toArray, this, List.nil_append]
  have hi0 := hi.part hnd hs
  have hargs : VRs (RL l R ρ A H w) (fun j => A (ρ.getD j 0)) H0 w avs0 (xs.map a.eval ++ vs) :=
    Subs.ok hi (fun b hb => .inl hb) (fun hl i o b h1 h2 h3 h4 => .inr ⟨hl, i, o, h1, h2, h3, h4⟩) hs.hA ha (evs_append he hvs)
  have hcall := hc _ _ _ w _ hi0 hargs
  unfold Oper.wp
  rw [hrun, Oper.upon_enter]
  refine hcall.mono ?_
  rintro x w' ⟨v, r, H', R', A', rfl, hq, hi', hv, hst⟩
  obtain ⟨hr1, hr2⟩ := hn r H' hq
  obtain ⟨R2, A2, h1, h2, h3, _⟩ := part_back hi hnd hs hi' hst hv hr1
  exact hG _ _ _ _ _ _ hr2 h1 ((he.stp h3).put o.dst h2) h3.any

def lookS : Env → Nat → Option AV
  | [], _ => none
  | (t, v) :: r, n => if t = n then some v else lookS r n

theorem lookS_mem : ∀ (e : Env) (t : Nat) (x : AV), lookS e t = some x → (t, x) ∈ e
  | [], _, _, h => by simp [lookS] at h
  | (s, v) :: r, t, x, h => by
    unfold lookS at h
    by_cases hb : s = t
    · rw [if_pos hb] at h; cases h; subst hb; simp
    · rw [if_neg hb] at h; exact List.mem_cons_of_mem _ (lookS_mem r t x h)

inductive SubE (l : Bool) (ρ : List Nat) (H : List AO) (e : Env) : Env → Prop
  | nil : SubE l ρ H e []
  | cons {t x v e0} : lookS e t = some x → Sub l ρ H x v → SubE l ρ H e e0 → SubE l ρ H e ((t, v) :: e0)

theorem SubE.get {l ρ} : ∀ {e0 : Env}, SubE l ρ H e e0 → ∀ p ∈ e0, ∃ x, (p.1, x) ∈ e ∧ Sub l ρ H x p.2
  | _, .nil, p, hp => by simp at hp
  | _, .cons h1 h2 h3, p, hp => by
    rcases List.mem_cons.1 hp with rfl | hp
    · exact ⟨_, lookS_mem _ _ _ h1, h2⟩
    · exact SubE.get h3 p hp

/-- The same ground seen as a part of it: objects get other numbers, or are only read from here on. -/
theorem AWp.part {c : Code} {Q : Exit → Env → List AO → Prop} {e0 : Env} {H0 : List AO} (ρ : List Nat) (hnd : ρ.Nodup) (hs : SubH true ρ H ρ H0) (hm : ∀ j, j < m → ρ[j]? = some j ∨ H0[j]? = some .gone)
    (he0 : SubE true ρ H e e0) (h : AWp P m N c e0 H0 Q) : AWp P m N c e H Q := by
  intro R F A w a hi he
  have hi0 := hi.part hnd hs
  have hFL : FL true F ρ A H w = F := by funext b; simp [FL]
  rw [hFL] at hi0
  have hA := hs.hA (A := A)
  have he1 : EnvOk (RL true R ρ A H w) (fun j => A (ρ.getD j 0)) H0 w N e0 a := by
    refine ⟨he.defers, he.size, fun p hp => ?_⟩
    obtain ⟨x, hx, hsub⟩ := he0.get p hp
    obtain ⟨c, h1, h2⟩ := he.at_ _ hx
    exact ⟨c, h1, Sub.ok hi (fun b hb => .inl hb) (fun hl i o b h1 h2 h3 h4 => .inr ⟨hl, i, o, h1, h2, h3, h4⟩) hA hsub h2⟩
  refine wp_mono (h _ F _ w a hi0 he1) ?_
  rintro x a' w' ⟨e', H', R', A', hq, hi', he', hst⟩
  refine ⟨e', H', R', A', hq, hi', he', ⟨fun b hb => hst.rr b (.inl hb), fun b hb => hst.keep b (hb.imp .inl id), ?_, hst.os, hst.tape, hst.output, hst.size⟩⟩
  intro i o hlt hio
  have hB := (List.getElem?_eq_some_iff.1 hio).1
  rcases hm i hlt with hj | hj
  rotate_left
  · obtain ⟨p, k1, k2⟩ := hst.ext i .gone hlt hj
    refine ⟨p, k1, .inl ?_⟩
    rcases k2 with k2 | ⟨_, k2, _⟩
    · exact k2
    · cases p <;> simp_all [AO.kind]
  obtain ⟨o1, o0, h1, h2, h3⟩ := hs.get i i hj
  rw [hio] at h1; cases h1
  obtain ⟨s1, s2, s3⟩ := h3.same
  obtain ⟨p, k1, k2⟩ := hst.ext i o0 hlt h2
  refine ⟨p, k1, ?_⟩
  rcases k2 with k2 | ⟨k2, k3, k4⟩
  · exact .inl k2
  · exact .inr ⟨by omega, by rw [← k3, s2], fun e => by rw [k4 (by omega)]; simp [List.getD_eq_getElem?_getD, hj]⟩
end
/-! ### regions whose order is drawn -/
def onlyG (G : Act → World → Prop) : Exit → Act → World → Prop
  | .normal, a, w => G a w
  | _, _, _ => False

def AAny (P : Program) (m N : Nat) (ops : Array Oper) (fuel : Nat) (listed : Array Bool) (e : Env) (H : List AO) (K : Env → List AO → Prop) : Prop :=
  ∀ R F A w a (G : Act → World → Prop), Inv R F A H w → EnvOk R A H w N e a →
    (∀ a' w' e' H' R' A', K e' H' → Inv R' F A' H' w' → EnvOk R' A' H' w' N e' a' → Stp m R F A H w R' A' H' w' → G a' w') → wpAny P .any ops (onlyG G) fuel listed a w

section
variable {P : Program} {m N : Nat} {e : Env} {H : List AO} {K : Env → List AO → Prop} {ops : Array Oper} {fuel : Nat} {listed : Array Bool}

theorem Stp.heap {R F : Nat → Prop} {A : Nat → Value} {w w' : World} (m : Nat) (h : w'.heap = w.heap) (h1 : w'.os = w.os) (h2 : w'.tape = w.tape) (h3 : w'.output = w.output) : Stp m R F A H w R A H w' :=
  ⟨fun _ h => h, fun _ _ => by rw [h], Ext.refl m A H, h1, h2, h3, by rw [h]; exact Nat.le_refl _⟩

theorem Inv.heap {R F : Nat → Prop} {A : Nat → Value} {w w' : World} (hi : Inv R F A H w) (h : w'.heap = w.heap) (h1 : w'.os = w.os) (h2 : w'.tape = w.tape) (h3 : w'.output = w.output) : Inv R F A H w' :=
  ⟨hi.rf, fun b hb => by rw [h]; exact hi.rlt b hb, fun b hb => by rw [h]; exact hi.flt b hb, fun i o b h2 h3 h4 => hi.own i o b h2 h3 (foot_keep (fun _ _ => by rw [h]) h4), fun i j o p b h2 h3 h4 h5 h6 h7 => hi.inj i j o p b h2 h3 h4 h5 (foot_keep (fun _ _ => by rw [h]) h6) (foot_keep (fun _ _ => by rw [h]) h7), fun i o ho => OInv.mono (F := F) (Stp.heap _ h h1 h2 h3) (fun b _ => by rw [h]) (hi.obj i o ho), hi.tab.mono (fun _ h => h) (fun _ _ => by rw [h])⟩

theorem AWp.regionD {id : Nat} {l : List Oper} {Q : Exit → Env → List AO → Prop} (hm : P.follows .mixedOrders = true) {sz : Nat} (hsz : l.length = sz)
    (h : AAny P m N l.toArray sz (Array.replicate sz false) e H (fun e' H' => Q .normal e' H')) : AWp P m N (.region id l.toArray true) e H Q := by
  subst hsz
  intro R F A w a hi he
  have h1 : (Code.region id l.toArray true).wp P (onlyG fun a' w' => Lift m Q R F A H w N .normal a' w') a w := by
    refine wp_region_any hm ?_
    have hst : Stp H.length R F A H w R A H { w with drawn := w.drawn + 1 } := Stp.heap _ rfl rfl rfl rfl
    simpa using h R F A { w with drawn := w.drawn + 1 } a _ (hi.heap rfl rfl rfl rfl) (he.stp hst) fun a' w' e' H' R' A' k1 k2 k3 k4 => ⟨e', H', R', A', k1, k2, k3, hst.any.trans k4⟩
  refine wp_mono h1 ?_
  intro x a' w' hq
  cases x <;> first | exact hq | exact hq.elim

theorem AAny.done (hr : Region.ready .any ops listed = []) (h : K e H) : AAny P m N ops fuel listed e H K :=
  fun R F A w a G hi he hG => wpAny_done hr (hG a w e H R A h hi he (Stp.refl ..)) fuel

/-- One of the operations that may come next. -/
def ANext (P : Program) (m N : Nat) (ops : Array Oper) (fuel : Nat) (listed : Array Bool) (e : Env) (H : List AO) (K : Env → List AO → Prop) (i : Nat) : Prop :=
  ∃ o, ops[i]? = some o ∧ ((wantA ops e o true ∧ AOp P m N o e H (fun e' H' => AAny P m N ops fuel (listed.setIfInBounds i true) e' H' K)) ∨
    (wantA ops e o false ∧ AAny P m N ops fuel (listed.setIfInBounds i true) (put N e o.dst (.lit undef)) H K))

theorem AAny.all {rs : List Nat} (hr : Region.ready .any ops listed = rs) (hne : rs ≠ []) (h : ∀ i ∈ rs, ANext P m N ops fuel listed e H K i) : AAny P m N ops (fuel + 1) listed e H K := by
  intro R F A w a G hi he hG
  refine wpAny_all hr hne fun i hir => ?_
  obtain ⟨o, ho, h⟩ := h i hir
  unfold wpOp
  simp only [ho]
  rcases h with ⟨hw, h⟩ | ⟨hw, h⟩
  · rw [if_pos (by rw [wanted_of hw he])]
    refine .inl (h R F A w a _ _ hi he ?_)
    intro a' w' e' H' R' A' h1 h2 h3 h4
    exact h1 R' F A' w' a' G h2 h3 fun a'' w'' e'' H'' R'' A'' k1 k2 k3 k4 => hG a'' w'' e'' H'' R'' A'' k1 k2 k3 (h4.trans k4)
  · rw [if_neg (by rw [wanted_of hw he]; simp)]
    exact h R F A w _ G hi (he.put o.dst (by simp [VR])) hG

theorem AAny.take {i : Nat} {o : Oper} {v : AV} (ho : ops[i]? = some o) (hs : Region.noSelect ops = true) (hf : Region.free .any ops listed i = true) (hr : (Region.ready .any ops listed).contains i = true)
    (hw : wantA ops e o true) (hy : AYield P N o e H v) (h : AAny P m N ops fuel (listed.setIfInBounds i true) (put N e o.dst v) H K) : AAny P m N ops (fuel + 1) listed e H K := by
  intro R F A w a G hi he hG
  obtain ⟨c, hc, hv⟩ := hy R F A w a hi he
  exact wpAny_take ho hs hf hr (fun _ _ _ h => h) (.inl ⟨wanted_of hw he, hc⟩) (h R F A w _ G hi (he.put o.dst hv) hG)

theorem AAny.skip {i : Nat} {o : Oper} (ho : ops[i]? = some o) (hs : Region.noSelect ops = true) (hf : Region.free .any ops listed i = true) (hr : (Region.ready .any ops listed).contains i = true)
    (hw : wantA ops e o false) (h : AAny P m N ops fuel (listed.setIfInBounds i true) (put N e o.dst (.lit undef)) H K) : AAny P m N ops (fuel + 1) listed e H K := by
  intro R F A w a G hi he hG
  exact wpAny_take ho hs hf hr (fun _ _ _ h => h) (.inr ⟨wanted_of hw he, rfl⟩) (h R F A w _ G hi (he.put o.dst (by simp [VR])) hG)
end

section
variable {P : Program} {N : Nat} {e : Env} {H : List AO}

/-- make([]T, n), T of one cell. -/
theorem ANew.make {o : Oper} {t el : TypeId} {x y : Operand} {i : TypeInfo} {z : Value} {k k' : IntKind} {q : Int} (ho : o.op = .makeSlice t x y) (hu : P.underlying t = some (.slice el)) (hi : P.info? el = some i)
    (hz : i.zero = some z) (hsz : i.size = 1) (hc : z.cells = #[z]) (hx : ev e x = .lit (.int k q)) (hy : ev e y = .lit (.int k' q)) (h0 : 0 ≤ q) (hb : i.bytes * q.toNat ≤ 281474976710656) (hm : q.toNat ≤ maxLen) :
    ANew P N o e H (.own H.length q.toNat) (H ++ [.sl el 1 q.toNat true (List.replicate q.toNat (.lit z))]) := by
  intro R F A w a hinv he
  have hvx := he.ev x
  have hvy := he.ev y
  rw [hx] at hvx
  rw [hy] at hvy
  simp only [VR] at hvx hvy
  have hq : ((q.toNat : Nat) : Int) = q := by omega
  obtain ⟨w', h1, h2, h3⟩ := run_make_full (P := P) w w.heap.size t el i z 1 hu hi hz hsz k k' q.toNat hb hm (Nat.le_refl _)
  rw [hq] at h1
  have hpush := Inv.push (w' := w') (c := .slice (some ⟨w.heap.size, 0, none⟩) q.toNat q.toNat) (o := .sl el 1 q.toNat true (List.replicate q.toNat (.lit z))) hinv (by simp)
    h3.size (fun b hb => h3.block b hb (by simp)) h3.os h3.tape h3.output (fun b hb => by simp only [blk, Option.some.injEq] at hb; omega)
    (fun hst => by
      refine ⟨_, ⟨h2.1, ?_⟩, ?_, by simp⟩
      · rcases h2.2 with h | ⟨g, cap, cur, k1, k2, k3⟩
        · exact .inl h
        · exact .inr ⟨g, cap, cur, k1, Nat.zero_le _, k3⟩
      · rw [hc, Nat.mul_one, toList_madeCells_one]
        exact VRs.replicate (by simp [VR]) _)
  refine ⟨.slice (some ⟨w.heap.size, 0, none⟩) q.toNat q.toNat, w', _, ?_, hpush.1, ?_, hpush.2, push_old _ _ _, fun b hb => h3.block b (HB.lt hinv hb) (by simp)⟩
  · unfold execOp
    rw [ho]
    simp only [hvx, hvy, h1, Sem.run_bind, Result.andThen_ok, Sem.run_pure]
  · simp only [VR]
    exact ⟨.sl el 1 q.toNat true (List.replicate q.toNat (.lit z)), by simp, ⟨_, _, _, rfl⟩, .inr ⟨rfl, Nat.le_refl _, fun _ => by simp⟩⟩

/-- Parts put into cells. -/
def setAt (off : Nat) : List AV → List AV → Nat → List AV
  | cells, [], _ => cells
  | cells, x :: xs, j => setAt off (cells.set (off + j) x) xs (j + 1)

def fillA (place : Nat → Option (Nat × Nat)) : List AV → List (Nat × AV) → Option (List AV)
  | cells, [] => some cells
  | cells, (i, v) :: r =>
    match place i with
    | none => none
    | some (off, size) => if (cellsA v).length = size ∧ off + (cellsA v).length ≤ cells.length ∧ okc v = true then fillA place (setAt off cells (cellsA v) 0) r else none

theorem setAt_length (off : Nat) : ∀ (cells xs : List AV) (j : Nat), (setAt off cells xs j).length = cells.length
  | _, [], _ => rfl
  | cells, x :: xs, j => by rw [setAt, setAt_length]; simp

theorem setAt_sound {R A} {w : World} (off : Nat) : ∀ {cells xs : List AV} {j : Nat} {arr : Array Value} {vs : List Value}, VRs R A H w cells arr.toList → VRs R A H w xs vs →
    VRs R A H w (setAt off cells xs j) ((vs.zipIdx j).foldl (fun cs (c, j) => cs.setIfInBounds (off + j) c) arr).toList
  | cells, [], j, arr, [], h, _ => by simpa [setAt] using h
  | cells, x :: xs, j, arr, v :: vs, h, k => by
    simp only [VRs] at k
    simp only [setAt, List.zipIdx_cons, List.foldl_cons]
    exact setAt_sound off (by rw [Array.toList_setIfInBounds]; exact h.set _ k.1) k.2
  | cells, [], j, arr, _ :: _, h, k => by simp [VRs] at k
  | cells, _ :: _, j, arr, [], h, k => by simp [VRs] at k

theorem fill_sound {R A} {w : World} {a : Act} (he : EnvOk R A H w N e a) (place : Nat → Option (Nat × Nat)) : ∀ (parts : List (Nat × Operand)) {cells cells' : List AV} {arr : Array Value},
    VRs R A H w cells arr.toList → fillA place cells (parts.map fun p => (p.1, ev e p.2)) = some cells' →
    ∃ arr', Instr.fill place arr (parts.map fun p => (p.1, a.eval p.2)) = some arr' ∧ VRs R A H w cells' arr'.toList ∧ arr'.size = arr.size
  | [], cells, cells', arr, h, hf => by
    simp only [List.map_nil, fillA, Option.some.injEq] at hf
    subst hf
    exact ⟨arr, rfl, h, rfl⟩
  | (i, x) :: r, cells, cells', arr, h, hf => by
    simp only [List.map_cons, fillA] at hf
    cases hp : place i with
    | none => rw [hp] at hf; cases hf
    | some q =>
      obtain ⟨off, size⟩ := q
      rw [hp] at hf
      simp only at hf
      split at hf
      · rename_i hc
        have hv := cells_of (he.ev x) hc.2.2
        have hl := hv.1.length
        have hl2 := h.length
        have hsz : (a.eval x).cells.size = size := by rw [← Array.length_toList]; omega
        have hfit : ¬ (off + (a.eval x).cells.size > arr.size) := by rw [hsz]; simp only [Array.length_toList] at hl2; omega
        obtain ⟨arr', h1, h2, h3⟩ := fill_sound he place r (setAt_sound (j := 0) off h hv.1) hf
        refine ⟨arr', ?_, h2, ?_⟩
        · simp only [List.map_cons, Instr.fill, hp]
          rw [if_neg (by simp [hsz]; omega)]
          rw [← h1]
          congr 1
          rw [← Array.foldl_toList, Array.toList_zipIdx]
        · rw [h3]
          have : ∀ (l : List (Value × Nat)) (ar : Array Value), (l.foldl (fun cs (c, j) => cs.setIfInBounds (off + j) c) ar).size = ar.size := by
            intro l
            induction l with
            | nil => intro ar; rfl
            | cons y l ih => intro ar; rw [List.foldl_cons, ih]; simp
          exact this _ _
      · cases hf

/-- A struct, field by field. -/
theorem AYield.build {o : Oper} {t : TypeId} {parts : List (Nat × Operand)} {i : TypeInfo} {z : Value} {fields : Array Field} {places : Array (Nat × Nat)} {cells' : List AV} (ho : o.op = .build t parts.toArray)
    (hu : P.underlying t = some (.struct fields)) (hi : P.info? t = some i) (hz : i.zero = some z)
    (hpl : ∀ w, (fields.mapM (m := Sem) fun f => do pure (f.offset, ← sizeOf f.type)).run P w = .ok places w)
    (hf : fillA (places[·]?) (z.cells.toList.map .lit) (parts.map fun p => (p.1, ev e p.2)) = some cells') : AYield P N o e H (.agg cells') := by
  intro R F A w a hinv he
  obtain ⟨arr', h1, h2, h3⟩ := fill_sound (arr := z.cells) he (places[·]?) parts (VRs.lits _) hf
  refine ⟨.agg arr', fun W => ?_, by simp only [VR]; exact ⟨_, h2, by simp⟩⟩
  unfold execOp
  rw [ho]
  simp only [Instr.build, zeroValue, typeInfo, Sem.run_bind, Sem.run_pure, Result.andThen_ok, run_program, hi, hz, run_underlying hu, hpl, List.map_toArray, h1]

/-- A slice literal. -/
theorem ANew.buildSlice {o : Oper} {t el : TypeId} {n : Nat} {parts : List (Nat × Operand)} {i : TypeInfo} {z : Value} {size : Nat} {cells' : List AV} (ho : o.op = .buildSlice t n parts.toArray)
    (hu : P.underlying t = some (.slice el)) (hi : P.info? el = some i) (hz : i.zero = some z) (hsz : i.size = size) (hzs : z.cells.size = size) (hpos : 0 < size) (hn : n * size ≤ 16777216)
    (hf : fillA (fun i => some (i * size, size)) ((List.range (n * size)).map fun j => .lit (z.cells[j % z.cells.size]!)) (parts.map fun p => (p.1, ev e p.2)) = some cells') :
    ANew P N o e H (.own H.length n) (H ++ [.sl el size n true cells']) := by
  intro R F A w a hinv he
  have hnm : n ≤ maxLen := by
    have := Nat.le_mul_of_pos_right n hpos
    simp only [maxLen]; omega
  by_cases hns : n * size = 0
  · have h0 : n = 0 := by rcases Nat.mul_eq_zero.1 hns with h | h <;> omega
    subst h0
    obtain ⟨arr', h1, h2, h3⟩ := fill_sound (arr := #[]) (cells := []) he (fun i => some (i * size, size)) parts (by simp [VRs]) (by simpa using hf)
    have h4 : arr'.size = 0 := by simpa using h3
    have hpush := Inv.push (w' := w.alloc (.cells arr' el)) (c := .slice (some ⟨w.heap.size, 0, none⟩) 0 0) (o := .sl el size 0 true cells') hinv (by simp) (by simp)
      (fun b hb => alloc_old w _ b hb) rfl rfl rfl (fun b hb => by simp only [blk, Option.some.injEq] at hb; omega)
      (fun hst => ⟨_, World.ownsRow_lit w arr' 0 (Nat.zero_le _) (Nat.zero_le _) (by simpa using h4), hst.vrs h2, by simp⟩)
    refine ⟨.slice (some ⟨w.heap.size, 0, none⟩) 0 0, _, _, ?_, hpush.1, ?_, hpush.2, push_old _ _ _, fun b hb => alloc_old w _ b (HB.lt hinv hb)⟩
    · unfold execOp
      rw [ho]
      simp only [Instr.buildSlice, run_underlying hu, sizeOf, typeInfo, Sem.run_bind, Sem.run_pure, Result.andThen_ok, run_program, hi, hsz, Nat.zero_mul, List.map_toArray]
      have e0 : ∀ f : Nat → Value, Array.map f (Array.range 0) = #[] := fun f => by simp
      simp [h1, newRow, e0]
    · simp only [VR]
      exact ⟨.sl el size 0 true cells', by simp, ⟨_, _, _, rfl⟩, .inr ⟨rfl, Nat.le_refl _, fun _ => by simp⟩⟩
  · have hz0 : VRs R A H w ((List.range (n * size)).map fun j => .lit (z.cells[j % z.cells.size]!)) ((Array.range (n * size)).map (z.cells[· % z.cells.size]!)).toList := by
      rw [Array.toList_map, Array.toList_range]
      have : ∀ l : List Nat, VRs R A H w (l.map fun j => AV.lit (z.cells[j % z.cells.size]!)) (l.map (z.cells[· % z.cells.size]!)) := by
        intro l
        induction l with
        | nil => simp [VRs]
        | cons y l ih => simp only [List.map_cons, VRs, VR]; exact ⟨trivial, ih⟩
      exact this _
    obtain ⟨arr', h1, h2, h3⟩ := fill_sound he (fun i => some (i * size, size)) parts hz0 hf
    have h4 : arr'.size = n * size := by simpa using h3
    have hpush := Inv.push (w' := w.alloc (.cells arr' el)) (c := .slice (some ⟨w.heap.size, 0, none⟩) n n) (o := .sl el size n true cells') hinv (by simp) (by simp)
      (fun b hb => alloc_old w _ b hb) rfl rfl rfl (fun b hb => by simp only [blk, Option.some.injEq] at hb; omega)
      (fun hst => ⟨_, World.ownsRow_lit w arr' n (Nat.zero_le _) hnm h4, hst.vrs h2, by simp⟩)
    refine ⟨.slice (some ⟨w.heap.size, 0, none⟩) n n, _, _, ?_, hpush.1, ?_, hpush.2, push_old _ _ _, fun b hb => alloc_old w _ b (HB.lt hinv hb)⟩
    · unfold execOp
      rw [ho]
      have hle : ¬ (n * size > 2 ^ 24) := by omega
      simp only [Instr.buildSlice, run_underlying hu, sizeOf, typeInfo, zeroValue, Sem.run_bind, Sem.run_pure, Result.andThen_ok, run_program, hi, hz, hsz, if_neg hns, if_neg hle, List.map_toArray, h1, newRow, run_newObj]
      rfl
    · simp only [VR]
      exact ⟨.sl el size n true cells', by simp, ⟨_, _, _, rfl⟩, .inr ⟨rfl, Nat.le_refl _, fun _ => by simp⟩⟩

/-- A row held against nil. -/
def nilA (H : List AO) : AV → Option Bool
  | .own id n => match H[id]? with
    | some (.sl _ _ m nn _) => if nn = true ∧ n = m then some false else none
    | _ => none
  | .row _ _ nn _ => if nn then some false else none
  | .lit (.slice none _ _) => some true
  | _ => none

theorem nilA_sound {R F A} {w : World} (hi : Inv R F A H w) {x : AV} {c : Value} (hv : VR R A H w x c) {b : Bool} (hb : nilA H x = some b) : ∃ p l k, c = .slice p l k ∧ p.isNone = b := by
  cases x with
  | own id n =>
    simp only [nilA] at hb
    simp only [VR] at hv
    obtain ⟨o, h1, ⟨p, l, k, h2⟩, h3⟩ := hv
    have hob := hi.obj id o h1
    rw [h1] at hb
    cases o with
    | bx t cells => simp at hb
    | nil => simp at hb
    | gone => simp at hb
    | dp => simp at hb
    | sl t size m nn cells =>
      simp only at hb
      split at hb
      · rename_i hc
        simp only [Option.some.injEq] at hb
        subst hb
        have h4 := (h3.resolve_left (by simp)).2.2 hc.2
        obtain ⟨vs, h5, h6, h7⟩ := hob
        refine ⟨p, l, k, h2, ?_⟩
        have h8 := h7 hc.1
        rw [← h4, h2] at h5 h8
        rcases h5.2 with ⟨h9, _⟩ | ⟨g, cap, cur, h9, _⟩
        · exact absurd h9 h8
        · simp only [Value.slice.injEq] at h9; rw [h9.1]; rfl
      · cases hb
  | row size n nn cells =>
    simp only [nilA] at hb
    split at hb
    · rename_i hn
      simp only [Option.some.injEq] at hb
      subst hb
      simp only [VR] at hv
      rcases hv with ⟨_, _, _, h⟩ | ⟨p, cap, vs, h1, _⟩
      · rw [hn] at h; cases h
      · exact ⟨some p, n, cap, h1, rfl⟩
    · cases hb
  | lit v =>
    simp only [VR] at hv
    subst hv
    unfold nilA at hb
    split at hb <;> simp_all
  | _ => simp [nilA] at hb
end
/-! ### a region that draws: what is read of old memory may be read first -/
def HS (R : Nat → Prop) (A : Nat → Value) (H : List AO) (w0 : World) : World → Prop := fun w => ∀ b, HB R A H b → w.heap[b]? = w0.heap[b]?

/-- The operation reads memory of the objects that stood when the region began. -/
def AHeld (P : Program) (N : Nat) (Hs : List AO) (o : Oper) (e : Env) (H : List AO) (v : AV) : Prop :=
  ∀ R F A w a, Inv R F A H w → (∀ (i : Nat) (o : AO), Hs[i]? = some o → H[i]? = some o) → EnvOk R A H w N e a → ∃ c, (∀ W, HS R A Hs w W → (execOp a.eval o).run P W = .ok (.value c) W) ∧ VR R A H w v c

def memS (Hs : List AO) : AV → Option (List AV) := mem Hs

section
variable {P : Program} {m N : Nat} {e e' : Env} {H Hs H' : List AO} {K : Env → List AO → Prop} {ops : Array Oper} {fuel : Nat} {listed : Array Bool} {o : Oper} {v : AV}

theorem AYield.held (h : AYield P N o e H v) : AHeld P N Hs o e H v := by
  intro R F A w a hi _ he
  obtain ⟨c, h1, h2⟩ := h R F A w a hi he
  exact ⟨c, fun W _ => h1 W, h2⟩

theorem mem_held {R F A w} (hi : Inv R F A H w) (hp : ∀ (i : Nat) (o : AO), Hs[i]? = some o → H[i]? = some o) {x : AV} {c : Value} (hv : VR R A H w x c) {cs : List AV} (hm : mem Hs x = some cs) :
    ∃ a vs, c = .pointer (some a) ∧ a.spot = none ∧ HB R A Hs a.block ∧ VRs R A H w cs vs ∧ ∀ j u, vs[j]? = some u → w.cell? (a.add j) = some u := by
  have hm' : mem H x = some cs := by
    cases x with
    | ptr id off =>
      simp only [mem] at hm ⊢
      cases h : Hs[id]? with
      | none => rw [h] at hm; simp at hm
      | some o => rw [h] at hm; rw [hp id o h]; exact hm
    | optr id n off =>
      simp only [mem] at hm ⊢
      cases h : Hs[id]? with
      | none => rw [h] at hm; simp at hm
      | some o => rw [h] at hm; rw [hp id o h]; exact hm
    | rptr cells => exact hm
    | _ => simp [mem] at hm
  obtain ⟨a, vs, h1, h2, h3, h4⟩ := mem_sound hi hv hm'
  refine ⟨a, vs, h1, h2, ?_, h3, h4⟩
  cases x with
  | ptr id off =>
    simp only [mem] at hm
    cases h : Hs[id]? with
    | none => rw [h] at hm; simp at hm
    | some o =>
      rw [h] at hm
      simp only [VR] at hv
      obtain ⟨o', g, k1, k2, k3⟩ := hv
      rw [hp id o h] at k1; cases k1
      cases o with
      | bx t cells =>
        obtain ⟨_, k4⟩ := k3.resolve_left (by simp)
        rw [h1] at k2
        simp only [Value.pointer.injEq, Option.some.injEq] at k2
        exact .inr ⟨id, _, h, by simp, by rw [k4, k2]; rfl⟩
      | _ => simp at hm
  | optr id n off =>
    simp only [mem] at hm
    cases h : Hs[id]? with
    | none => rw [h] at hm; simp at hm
    | some o =>
      rw [h] at hm
      simp only [VR] at hv
      obtain ⟨o', g, k1, k2, k3⟩ := hv
      rw [hp id o h] at k1; cases k1
      cases o with
      | sl t size mm nn cells =>
        simp only at hm
        split at hm
        · rename_i hn
          obtain ⟨l, cap, k4⟩ := (k3.resolve_left (by simp)).2.2 hn
          rw [h1] at k2
          simp only [Value.pointer.injEq, Option.some.injEq] at k2
          exact .inr ⟨id, _, h, by simp, by rw [k4, k2]; rfl⟩
        · cases hm
      | dp t size mm nn cells =>
        simp only at hm
        split at hm
        · rename_i hn
          obtain ⟨l, cap, k4⟩ := (k3.resolve_left (by simp)).2.2 hn
          rw [h1] at k2
          simp only [Value.pointer.injEq, Option.some.injEq] at k2
          exact .inr ⟨id, _, h, by simp, by rw [k4, k2]; rfl⟩
        · cases hm
      | _ => simp at hm
  | rptr cells =>
    simp only [VR] at hv
    obtain ⟨a', vs', k1, k2, _⟩ := hv
    rw [h1] at k1
    simp only [Value.pointer.injEq, Option.some.injEq] at k1
    subst k1
    exact .inl k2
  | _ => simp [mem] at hm

theorem AHeld.load1 {t : TypeId} {x : Operand} {d : TypeDesc} {cs : List AV} (ho : o.op = .load t x) (hu : P.underlying t = some d) (hd : d.isRow = false)
    (hm : mem Hs (ev e x) = some cs) (hc : cs[0]? = some v) : AHeld P N Hs o e H v := by
  intro R F A w a hi hp he
  obtain ⟨p, vs, h1, h2, hB, h3, h4⟩ := mem_held hi hp (he.ev x) hm
  obtain ⟨c, h5, h6⟩ := h3.get 0 v hc
  have h7 := h4 0 c h5
  have hp0 : p.add 0 = p := by simp [Addr.add]
  rw [hp0] at h7
  refine ⟨c, fun W hW => ?_, h6⟩
  have h8 : W.cell? p = some c := by rw [World.cell?_of_block (hW _ hB)]; exact h7
  have hagg : (isAgg t).run P W = .ok false W := by
    unfold isAgg
    rw [Sem.run_bind, run_underlying hu W]
    cases d <;> simp_all [TypeDesc.isRow]
  unfold execOp
  rw [ho]
  simp only [h1, Instr.loadAt, Instr.sureAddr, loadVar, Sem.run_bind, Sem.run_pure, Result.andThen_ok, hagg, Bool.false_eq_true, if_false, run_load, h8]

theorem AHeld.loadN {t : TypeId} {x : Operand} {d : TypeDesc} {i : TypeInfo} {cs : List AV} (ho : o.op = .load t x) (hu : P.underlying t = some d) (hd : d.isRow = true)
    (hi : P.info? t = some i) (hm : mem Hs (ev e x) = some cs) (hc : i.size ≤ cs.length) : AHeld P N Hs o e H (.agg (cs.take i.size)) := by
  intro R F A w a hinv hp he
  obtain ⟨p, vs, h1, h2, hB, h3, h4⟩ := mem_held hinv hp (he.ev x) hm
  have hlen := h3.length
  refine ⟨.agg (vs.take i.size).toArray, fun W hW => ?_, by simp only [VR]; exact ⟨_, h3.take _, rfl⟩⟩
  have hp0 : p = ⟨p.block, p.off, none⟩ := by cases p; cases h2; rfl
  have hr : W.rangeAt p.block p.off (vs.take i.size) := by
    intro j v hj
    rw [World.cell?_of_block (w := w) (a := ⟨p.block, p.off + j, none⟩) (hW _ hB), ← Addr.add_mid, ← hp0]
    refine h4 j v ?_
    rw [List.getElem?_take] at hj
    split at hj
    · exact hj
    · cases hj
  have := run_loadAt_mid (P := P) W p.block p.off t (vs.take i.size) d hr hu hd (by rw [hi]; simp; omega)
  unfold execOp
  rw [ho]
  simp only [h1]
  rw [hp0]
  simp only [this, Sem.run_bind, Result.andThen_ok, Sem.run_pure]

def AH (P : Program) (m N : Nat) (Hs : List AO) (ops : Array Oper) (fuel : Nat) (listed : Array Bool) (e : Env) (H : List AO) (K : Env → List AO → Prop) : Prop :=
  ∀ R F A w0 A0 w a (G : Act → World → Prop), Inv R F A H w → EnvOk R A H w N e a → (∀ (i : Nat) (o : AO), Hs[i]? = some o → H[i]? = some o) → (∀ (i : Nat) (o : AO), Hs[i]? = some o → A i = A0 i) → HS R A0 Hs w0 w →
    (∀ a' w' e' H' R' A', K e' H' → Inv R' F A' H' w' → EnvOk R' A' H' w' N e' a' → Stp m R F A H w R' A' H' w' → G a' w') → wpAnyH P .any ops (onlyG G) (HS R A0 Hs w0) fuel listed a w

theorem HS.to {R A A0 w0 w W} (hA : ∀ (i : Nat) (o : AO), Hs[i]? = some o → A i = A0 i) (h1 : HS R A0 Hs w0 w) (h2 : HS R A0 Hs w0 W) : HS R A Hs w W := by
  intro b hb
  have hb' : HB R A0 Hs b := by
    rcases hb with hb | ⟨i, o, k1, k2, k3⟩
    · exact .inl hb
    · exact .inr ⟨i, o, k1, k2, by rw [← hA i o k1]; exact k3⟩
  rw [h1 b hb', h2 b hb']

theorem AWp.regionH {id : Nat} {l : List Oper} {Q : Exit → Env → List AO → Prop} (hm : P.follows .mixedOrders = true) {sz : Nat} (hsz : l.length = sz)
    (h : AH P m N H l.toArray sz (Array.replicate sz false) e H (fun e' H' => Q .normal e' H')) : AWp P m N (.region id l.toArray true) e H Q := by
  subst hsz
  intro R F A w a hi he
  have h1 : (Code.region id l.toArray true).wp P (onlyG fun a' w' => Lift m Q R F A H w N .normal a' w') a w := by
    refine wp_region_held (S := HS R A H { w with drawn := w.drawn + 1 }) hm ?_
    have hst : Stp H.length R F A H w R A H { w with drawn := w.drawn + 1 } := Stp.heap _ rfl rfl rfl rfl
    simpa using h R F A { w with drawn := w.drawn + 1 } A { w with drawn := w.drawn + 1 } a _ (hi.heap rfl rfl rfl rfl) (he.stp hst) (fun _ _ h => h) (fun _ _ _ => rfl) (fun _ _ => rfl)
      fun a' w' e' H' R' A' k1 k2 k3 k4 => ⟨e', H', R', A', k1, k2, k3, hst.any.trans k4⟩
  refine wp_mono h1 ?_
  intro x a' w' hq
  cases x <;> first | exact hq | exact hq.elim

theorem AH.done (hr : Region.ready .any ops listed = []) (h : K e H) : AH P m N Hs ops fuel listed e H K :=
  fun R F A w0 A0 w a G hi he _ _ _ hG => wpAnyH_done hr (hG a w e H R A h hi he (Stp.refl ..)) fuel

theorem AH.take {i : Nat} (ho : ops[i]? = some o) (hs : Region.noSelect ops = true) (hf : Region.free .any ops listed i = true) (hr : (Region.ready .any ops listed).contains i = true)
    (hw : wantA ops e o true) (hy : AHeld P N Hs o e H v) (h : AH P m N Hs ops fuel (listed.setIfInBounds i true) (put N e o.dst v) H K) : AH P m N Hs ops (fuel + 1) listed e H K := by
  intro R F A w0 A0 w a G hi he hp hA hS hG
  obtain ⟨c, hc, hv⟩ := hy R F A w a hi hp he
  exact wpAnyH_take ho hs hf hr (fun _ _ _ h => h) (.inl ⟨wanted_of hw he, fun W hW => hc W (HS.to hA hS hW)⟩) hS (h R F A w0 A0 w _ G hi (he.put o.dst hv) hp hA hS hG)

theorem AH.skip {i : Nat} (ho : ops[i]? = some o) (hs : Region.noSelect ops = true) (hf : Region.free .any ops listed i = true) (hr : (Region.ready .any ops listed).contains i = true)
    (hw : wantA ops e o false) (h : AH P m N Hs ops fuel (listed.setIfInBounds i true) (put N e o.dst (.lit undef)) H K) : AH P m N Hs ops (fuel + 1) listed e H K := by
  intro R F A w0 A0 w a G hi he hp hA hS hG
  exact wpAnyH_take ho hs hf hr (fun _ _ _ h => h) (.inr ⟨wanted_of hw he, rfl⟩) hS (h R F A w0 A0 w _ G hi (he.put o.dst (by simp [VR])) hp hA hS hG)

/-- An operation that makes memory, or a call, that leaves all that stood when the region began. -/
def AOpS (P : Program) (m N : Nat) (o : Oper) (e : Env) (H : List AO) (K : Env → List AO → Prop) : Prop :=
  ∀ R F A w a (G : Act → World → Prop) (Q : Exit → Act → World → Prop), Inv R F A H w → EnvOk R A H w N e a →
    (∀ a' w' e' H' A', K e' H' → Inv R F A' H' w' → EnvOk R A' H' w' N e' a' → Stp m R F A H w R A' H' w' → (∀ (i : Nat) (o : AO), H[i]? = some o → H'[i]? = some o ∧ A' i = A i) → (∀ b, HB R A H b → w'.heap[b]? = w.heap[b]?) → G a' w') → o.wp P a w G Q

theorem AH.one {i : Nat} (ho : ops[i]? = some o) (hr : Region.ready .any ops listed = [i]) (hw : wantA ops e o true) (h : AOpS P m N o e H (fun e' H' => AH P m N Hs ops fuel (listed.setIfInBounds i true) e' H' K)) : AH P m N Hs ops (fuel + 1) listed e H K := by
  intro R F A w0 A0 w a G hi he hp hA hS hG
  refine wpAnyH_all hr (by simp) fun j hj => ?_
  simp only [List.mem_singleton] at hj
  subst hj
  unfold wpOp
  simp only [ho]
  rw [if_pos (by rw [wanted_of hw he])]
  refine .inl (h R F A w a _ _ hi he ?_)
  intro a' w' e' H' A' h1 h2 h3 h4 h5 h6
  have hB : ∀ b, HB R A0 Hs b → HB R A H b := by
    rintro b (hb | ⟨i, o, k1, k2, k3⟩)
    · exact .inl hb
    · exact .inr ⟨i, o, hp i o k1, k2, by rw [hA i o k1]; exact k3⟩
  have hS' : HS R A0 Hs w0 w' := fun b hb => by rw [h6 b (hB b hb)]; exact hS b hb
  refine ⟨hS', h1 R F A' w0 A0 w' a' G h2 h3 (fun i o k => (h5 i o (hp i o k)).1) (fun i o k => by rw [(h5 i o (hp i o k)).2]; exact hA i o k) hS' ?_⟩
  intro a'' w'' e'' H'' R'' A'' k1 k2 k3 k4
  exact hG a'' w'' e'' H'' R'' A'' k1 k2 k3 (h4.trans k4)

theorem AOpS.step (hs : AHeld P N H o e H v) (hn : K (put N e o.dst v) H) : AOpS P m N o e H K := by
  intro R F A w a G Q hi he hG
  obtain ⟨c, h1, h2⟩ := hs R F A w a hi (fun _ _ h => h) he
  unfold Oper.wp
  rw [h1 w (fun _ _ => rfl)]
  exact hG _ _ _ _ _ hn hi (he.put o.dst h2) (Stp.refl ..) (fun _ _ h => ⟨h, rfl⟩) (fun _ _ => rfl)

theorem AOpS.new (hs : ANew P N o e H v H') (hn : K (put N e o.dst v) H') : AOpS P m N o e H K := by
  intro R F A w a G Q hi he hG
  obtain ⟨c, w', A', h1, h2, h3, h4, h5, h6⟩ := hs R F A w a hi he
  unfold Oper.wp
  rw [h1]
  exact hG _ _ _ _ _ hn h2 ((he.stp h4).put o.dst h3) h4.any h5 h6

/-- A call that lends all there is. -/
theorem AOpS.call {x : Operand} {xs : List Operand} {ts : Array TypeId} {f : FuncId} {fn : Func} {caps avs0 : List AV} {Q0 : AV → List AO → Prop}
    (ho : o.op = .call { callee := .value x, args := xs.toArray, argTypes := ts }) (hx : ev e x = .fn f caps) (hf : P.funcs[f]? = some fn) (hname : (fn.name == "runtime.NumGoroutine") = false) (hb : fn.body.isSome = true)
    (hc : ACalls P f avs0 [] Q0) (ha : Subs true [] H (xs.map (ev e) ++ caps) avs0)
    (hn : ∀ r H', Q0 r H' → (norow r = true ∧ H'.all norowO = true) ∧ K (put N e o.dst (renV (rho [] H.length) r)) (mergeH [] H H')) : AOpS P m N o e H K := by
  intro R F A w a G Q hi he hG
  have hvx := he.ev x
  rw [hx] at hvx
  simp only [VR] at hvx
  obtain ⟨vs, hvs, hfx⟩ := hvx
  have hrun : (execOp a.eval o).run P w = .ok (.enter f (xs.map a.eval ++ vs).toArray) w := by
    have := enters hf hname hb (xs.map a.eval ++ vs).toArray w
    unfold execOp
    rw [ho]
    simp only [resolve, hfx, Deferred.ofValue, invoke, Sem.run_bind, Sem.run_pure, Result.andThen_ok, List.map_toArray, Array.empty_append, List.append_toArray, this, List.nil_append]
  have hs : SubH true [] H [] [] := .nil
  have hi0 := hi.part List.nodup_nil hs
  have hargs : VRs (RL true R [] A H w) (fun j => A (([] : List Nat).getD j 0)) [] w avs0 (xs.map a.eval ++ vs) :=
    Subs.ok hi (fun b hb => .inl hb) (fun hl i o b h1 h2 h3 h4 => .inr ⟨hl, i, o, h1, h2, h3, h4⟩) hs.hA ha (evs_append he hvs)
  have hcall := hc _ _ _ w _ hi0 hargs
  unfold Oper.wp
  rw [hrun, Oper.upon_enter]
  refine hcall.mono ?_
  rintro x w' ⟨v, r, H', R', A', rfl, hq, hi', hv, hst⟩
  obtain ⟨hr1, hr2⟩ := hn r H' hq
  -- the way back, with what stays
  obtain ⟨R2, A2, h1, h2, h3, h4, h5⟩ := part_back (l := true) hi List.nodup_nil hs hi' hst hv (.inr hr1)
  have h5 := h5 rfl
  subst h5
  refine hG _ _ _ _ _ hr2 h1 ((he.stp h3).put o.dst h2) h3.any (fun i o k => h4 i o (by simp) k) (fun b hb => ?_)
  refine hst.keep b (.inl ?_)
  rcases hb with hb | ⟨i, o, k1, k2, k3⟩
  · exact .inl hb
  · exact .inr ⟨rfl, i, o, by simp, k1, k2, .inl k3⟩
end
/-! A region that draws, walked in the text's order: which operations stand alone is computed once. -/
def preB (i n : Nat) : Array Bool := (List.replicate i true ++ List.replicate (n - i) false).toArray
theorem preB_zero (n : Nat) : preB 0 n = Array.replicate n false := by simp [preB]
theorem preB_set {i n : Nat} (h : i < n) : (preB i n).setIfInBounds i true = preB (i + 1) n := by
  unfold preB
  rw [List.setIfInBounds_toArray]
  congr 1
  rw [List.set_append_right _ _ (by simp)]
  obtain ⟨d, rfl⟩ : ∃ d, n = i + (d + 1) := ⟨n - i - 1, by omega⟩
  have h1 : i + (d + 1) - i = d + 1 := by omega
  have h2 : i + (d + 1) - (i + 1) = d := by omega
  rw [h1, h2, List.length_replicate, Nat.sub_self, List.replicate_succ' (n := i), List.append_assoc]
  rfl
def dsK (ka : List Nat) : List Nat := (List.range ka.length).filter fun i => ka.getD i 0 == 2
def schedB (ops : Array Oper) (ka : List Nat) : Bool :=
  Region.noSelect ops && ((List.range ops.size).all fun i => if ka.getD i 0 == 0 then Region.free .any ops (preB i ops.size) i && (Region.ready .any ops (preB i ops.size)).contains i && Region.closedB .any ops (preB i ops.size) && Region.lastB .any ops (preB i ops.size) (dsK ka) i else Region.ready .any ops (preB i ops.size) == [i]) && (Region.ready .any ops (preB ops.size ops.size) == [])
theorem mem_dsK {ka : List Nat} {i x : Nat} (h : ka[i]? = some x) : i ∈ dsK ka ↔ x = 2 := by
  have hl := (List.getElem?_eq_some_iff.1 h).1
  unfold dsK
  rw [List.mem_filter, List.mem_range, List.getD_eq_getElem?_getD, h]
  simp [hl]
section
variable {P : Program} {m N : Nat} {e : Env} {H Hs : List AO} {K : Env → List AO → Prop} {o : Oper} {ops : Array Oper} {ka ks : List Nat} {rest : List Oper} {v : AV} {ds : List Nat} {fuel : Nat} {listed : Array Bool}
def AL (P : Program) (m N : Nat) (Hs : List AO) (ops : Array Oper) (ds : List Nat) (fuel : Nat) (listed : Array Bool) (e : Env) (H : List AO) (K : Env → List AO → Prop) : Prop :=
  ∀ R F A w0 A0 w a (G : Act → World → Prop), Inv R F A H w → EnvOk R A H w N e a → (∀ (i : Nat) (o : AO), Hs[i]? = some o → H[i]? = some o) → (∀ (i : Nat) (o : AO), Hs[i]? = some o → A i = A0 i) → HS R A0 Hs w0 w →
    (∀ a' w' e' H' R' A', K e' H' → Inv R' F A' H' w' → EnvOk R' A' H' w' N e' a' → Stp m R F A H w R' A' H' w' → G a' w') → wpAnyLast P .any ops (onlyG G) (HS R A0 Hs w0) ds fuel listed a w
/-- Behind a store: each operation stands alone. -/
def AZ (P : Program) (m N : Nat) (ops : Array Oper) (ds : List Nat) (fuel : Nat) (listed : Array Bool) (e : Env) (H : List AO) (K : Env → List AO → Prop) : Prop :=
  ∀ R F A w a (G : Act → World → Prop) (S : World → Prop), Inv R F A H w → EnvOk R A H w N e a →
    (∀ a' w' e' H' R' A', K e' H' → Inv R' F A' H' w' → EnvOk R' A' H' w' N e' a' → Stp m R F A H w R' A' H' w' → G a' w') → wpAnyLast P .any ops (onlyG G) S ds fuel listed a w
theorem AWp.regionL {id : Nat} {l : List Oper} {Q : Exit → Env → List AO → Prop} (hm : P.follows .mixedOrders = true)
    (h : AL P m N H l.toArray ds l.length (Array.replicate l.length false) e H (fun e' H' => Q .normal e' H')) : AWp P m N (.region id l.toArray true) e H Q := by
  intro R F A w a hi he
  have h1 : (Code.region id l.toArray true).wp P (onlyG fun a' w' => Lift m Q R F A H w N .normal a' w') a w := by
    refine wp_region_last (S := HS R A H { w with drawn := w.drawn + 1 }) (ds := ds) hm ?_
    have hst : Stp H.length R F A H w R A H { w with drawn := w.drawn + 1 } := Stp.heap _ rfl rfl rfl rfl
    simpa using h R F A { w with drawn := w.drawn + 1 } A { w with drawn := w.drawn + 1 } a _ (hi.heap rfl rfl rfl rfl) (he.stp hst) (fun _ _ h => h) (fun _ _ _ => rfl) (fun _ _ => rfl)
      fun a' w' e' H' R' A' k1 k2 k3 k4 => ⟨e', H', R', A', k1, k2, k3, hst.any.trans k4⟩
  refine wp_mono h1 ?_
  intro x a' w' hq
  cases x <;> first | exact hq | exact hq.elim
theorem AL.done (hr : Region.ready .any ops listed = []) (h : K e H) : AL P m N Hs ops ds fuel listed e H K :=
  fun R F A w0 A0 w a G hi he _ _ _ hG => wpAnyLast_done hr (hG a w e H R A h hi he (Stp.refl ..)) fuel
theorem AZ.done (hr : Region.ready .any ops listed = []) (h : K e H) : AZ P m N ops ds fuel listed e H K :=
  fun R F A w a G S hi he hG => wpAnyLast_done hr (hG a w e H R A h hi he (Stp.refl ..)) fuel
theorem AL.take {i : Nat} (ho : ops[i]? = some o) (hs : Region.noSelect ops = true) (hf : Region.free .any ops listed i = true) (hr : (Region.ready .any ops listed).contains i = true) (hc : Region.closedB .any ops listed = true) (hl : Region.lastB .any ops listed ds i = true)
    (hw : wantA ops e o true) (hy : AHeld P N Hs o e H v) (h : AL P m N Hs ops ds fuel (listed.setIfInBounds i true) (put N e o.dst v) H K) : AL P m N Hs ops ds (fuel + 1) listed e H K := by
  intro R F A w0 A0 w a G hi he hp hA hS hG
  obtain ⟨c, hc', hv⟩ := hy R F A w a hi hp he
  exact wpAnyLast_take ho hs hf hr hc hl (fun _ _ _ h => h) (.inl ⟨wanted_of hw he, fun W hW => hc' W (HS.to hA hS hW)⟩) hS (h R F A w0 A0 w _ G hi (he.put o.dst hv) hp hA hS hG)
theorem AL.skip {i : Nat} (ho : ops[i]? = some o) (hs : Region.noSelect ops = true) (hf : Region.free .any ops listed i = true) (hr : (Region.ready .any ops listed).contains i = true) (hc : Region.closedB .any ops listed = true) (hl : Region.lastB .any ops listed ds i = true)
    (hw : wantA ops e o false) (h : AL P m N Hs ops ds fuel (listed.setIfInBounds i true) (put N e o.dst (.lit undef)) H K) : AL P m N Hs ops ds (fuel + 1) listed e H K := by
  intro R F A w0 A0 w a G hi he hp hA hS hG
  exact wpAnyLast_take ho hs hf hr hc hl (fun _ _ _ h => h) (.inr ⟨wanted_of hw he, rfl⟩) hS (h R F A w0 A0 w _ G hi (he.put o.dst (by simp [VR])) hp hA hS hG)
theorem AL.one {i : Nat} (ho : ops[i]? = some o) (hr : Region.ready .any ops listed = [i]) (hw : wantA ops e o true) (h : AOpS P m N o e H (fun e' H' => AL P m N Hs ops ds fuel (listed.setIfInBounds i true) e' H' K)) : AL P m N Hs ops ds (fuel + 1) listed e H K := by
  intro R F A w0 A0 w a G hi he hp hA hS hG
  refine wpAnyLast_all hr (by simp) fun j hj => ?_
  simp only [List.mem_singleton] at hj
  subst hj
  unfold wpOp
  simp only [ho]
  rw [if_pos (by rw [wanted_of hw he])]
  refine .inl (h R F A w a _ _ hi he ?_)
  intro a' w' e' H' A' h1 h2 h3 h4 h5 h6
  have hB : ∀ b, HB R A0 Hs b → HB R A H b := by
    rintro b (hb | ⟨i, o, k1, k2, k3⟩)
    · exact .inl hb
    · exact .inr ⟨i, o, hp i o k1, k2, by rw [hA i o k1]; exact k3⟩
  have hS' : HS R A0 Hs w0 w' := fun b hb => by rw [h6 b (hB b hb)]; exact hS b hb
  refine ⟨fun _ _ => hS', h1 R F A' w0 A0 w' a' G h2 h3 (fun i o k => (h5 i o (hp i o k)).1) (fun i o k => by rw [(h5 i o (hp i o k)).2]; exact hA i o k) hS' ?_⟩
  intro a'' w'' e'' H'' R'' A'' k1 k2 k3 k4
  exact hG a'' w'' e'' H'' R'' A'' k1 k2 k3 (h4.trans k4)
theorem AL.skip1 {i : Nat} (ho : ops[i]? = some o) (hr : Region.ready .any ops listed = [i]) (hw : wantA ops e o false) (h : AL P m N Hs ops ds fuel (listed.setIfInBounds i true) (put N e o.dst (.lit undef)) H K) : AL P m N Hs ops ds (fuel + 1) listed e H K := by
  intro R F A w0 A0 w a G hi he hp hA hS hG
  refine wpAnyLast_all hr (by simp) fun j hj => ?_
  simp only [List.mem_singleton] at hj
  subst hj
  unfold wpOp
  simp only [ho]
  rw [if_neg (by rw [wanted_of hw he]; simp)]
  exact ⟨fun _ _ => hS, h R F A w0 A0 w _ G hi (he.put o.dst (by simp [VR])) hp hA hS hG⟩
theorem AL.last {i : Nat} (ho : ops[i]? = some o) (hr : Region.ready .any ops listed = [i]) (hd : i ∈ ds) (hw : wantA ops e o true) (h : AOp P m N o e H (fun e' H' => AZ P m N ops ds fuel (listed.setIfInBounds i true) e' H' K)) : AL P m N Hs ops ds (fuel + 1) listed e H K := by
  intro R F A w0 A0 w a G hi he hp hA hS hG
  refine wpAnyLast_all hr (by simp) fun j hj => ?_
  simp only [List.mem_singleton] at hj
  subst hj
  unfold wpOp
  simp only [ho]
  rw [if_pos (by rw [wanted_of hw he])]
  refine .inl (h R F A w a _ _ hi he ?_)
  intro a' w' e' H' R' A' h1 h2 h3 h4
  exact ⟨fun hn => absurd hd hn, h1 R' F A' w' a' G _ h2 h3 fun a'' w'' e'' H'' R'' A'' k1 k2 k3 k4 => hG a'' w'' e'' H'' R'' A'' k1 k2 k3 (h4.trans k4)⟩
theorem AZ.one {i : Nat} (ho : ops[i]? = some o) (hr : Region.ready .any ops listed = [i]) (hd : i ∈ ds) (hw : wantA ops e o true) (h : AOp P m N o e H (fun e' H' => AZ P m N ops ds fuel (listed.setIfInBounds i true) e' H' K)) : AZ P m N ops ds (fuel + 1) listed e H K := by
  intro R F A w a G S hi he hG
  refine wpAnyLast_all hr (by simp) fun j hj => ?_
  simp only [List.mem_singleton] at hj
  subst hj
  unfold wpOp
  simp only [ho]
  rw [if_pos (by rw [wanted_of hw he])]
  refine .inl (h R F A w a _ _ hi he ?_)
  intro a' w' e' H' R' A' h1 h2 h3 h4
  exact ⟨fun hn => absurd hd hn, h1 R' F A' w' a' G _ h2 h3 fun a'' w'' e'' H'' R'' A'' k1 k2 k3 k4 => hG a'' w'' e'' H'' R'' A'' k1 k2 k3 (h4.trans k4)⟩
theorem AZ.skip1 {i : Nat} (ho : ops[i]? = some o) (hr : Region.ready .any ops listed = [i]) (hd : i ∈ ds) (hw : wantA ops e o false) (h : AZ P m N ops ds fuel (listed.setIfInBounds i true) (put N e o.dst (.lit undef)) H K) : AZ P m N ops ds (fuel + 1) listed e H K := by
  intro R F A w a G S hi he hG
  refine wpAnyLast_all hr (by simp) fun j hj => ?_
  simp only [List.mem_singleton] at hj
  subst hj
  unfold wpOp
  simp only [ho]
  rw [if_neg (by rw [wanted_of hw he]; simp)]
  exact ⟨fun hn => absurd hd hn, h R F A w _ G _ hi (he.put o.dst (by simp [VR])) hG⟩
def AHp (P : Program) (m N : Nat) (Hs : List AO) (ops : Array Oper) (ka : List Nat) (rest : List Oper) (ks : List Nat) (e : Env) (H : List AO) (K : Env → List AO → Prop) : Prop :=
  ∀ i, ops.toList.drop i = rest → ka.drop i = ks → i ≤ ops.size → schedB ops ka = true → AL P m N Hs ops (dsK ka) (ops.size - i) (preB i ops.size) e H K
def AZp (P : Program) (m N : Nat) (ops : Array Oper) (ka : List Nat) (rest : List Oper) (ks : List Nat) (e : Env) (H : List AO) (K : Env → List AO → Prop) : Prop :=
  ∀ i, ops.toList.drop i = rest → ka.drop i = ks → i ≤ ops.size → schedB ops ka = true → AZ P m N ops (dsK ka) (ops.size - i) (preB i ops.size) e H K
theorem drop_head {α : Type} {l : List α} {i : Nat} {x : α} {r : List α} (h : l.drop i = x :: r) : l[i]? = some x ∧ l.drop (i + 1) = r ∧ i < l.length := by
  have h1 : i < l.length := by
    rcases Nat.lt_or_ge i l.length with k | k
    · exact k
    · rw [List.drop_eq_nil_of_le k] at h; cases h
  rw [List.drop_eq_getElem_cons h1] at h
  simp only [List.cons.injEq] at h
  exact ⟨by rw [List.getElem?_eq_getElem h1, h.1], h.2, h1⟩
theorem sched_end (hs : schedB ops ka = true) : Region.ready .any ops (preB ops.size ops.size) = [] := by
  simp only [schedB, Bool.and_eq_true, beq_iff_eq] at hs
  exact hs.2
theorem sched_at {i : Nat} {b : Nat} (hs : schedB ops ka = true) (hi : i < ops.size) (hb : ka[i]? = some b) :
    Region.noSelect ops = true ∧ (if b == 0 then Region.free .any ops (preB i ops.size) i && (Region.ready .any ops (preB i ops.size)).contains i && Region.closedB .any ops (preB i ops.size) && Region.lastB .any ops (preB i ops.size) (dsK ka) i else Region.ready .any ops (preB i ops.size) == [i]) = true := by
  simp only [schedB, Bool.and_eq_true, List.all_eq_true, List.mem_range] at hs
  refine ⟨hs.1.1, ?_⟩
  have := hs.1.2 i hi
  rw [List.getD_eq_getElem?_getD, hb] at this
  exact this
theorem AHp.nil (h : K e H) : AHp P m N Hs ops ka [] ks e H K := by
  intro i h1 _ hi hs
  have h2 : ops.size ≤ i := by simpa using List.drop_eq_nil_iff.1 h1
  obtain rfl : i = ops.size := by omega
  exact AL.done (sched_end hs) h
theorem AZp.nil (h : K e H) : AZp P m N ops ka [] ks e H K := by
  intro i h1 _ hi hs
  have h2 : ops.size ≤ i := by simpa using List.drop_eq_nil_iff.1 h1
  obtain rfl : i = ops.size := by omega
  exact AZ.done (sched_end hs) h
theorem AHp.take (hw : wantA ops e o true) (hy : AHeld P N Hs o e H v) (h : AHp P m N Hs ops ka rest ks (put N e o.dst v) H K) : AHp P m N Hs ops ka (o :: rest) (0 :: ks) e H K := by
  intro i h1 h2 hi hs
  obtain ⟨k1, k2, k3⟩ := drop_head h1
  obtain ⟨j1, j2, _⟩ := drop_head h2
  have hlt : i < ops.size := by simpa using k3
  obtain ⟨q1, q2⟩ := sched_at hs hlt j1
  rw [if_pos (by rfl)] at q2
  simp only [Bool.and_eq_true] at q2
  have hf : ops.size - i = (ops.size - (i + 1)) + 1 := by omega
  rw [hf]
  refine AL.take (i := i) (by simpa using k1) q1 q2.1.1.1 q2.1.1.2 q2.1.2 q2.2 hw hy ?_
  rw [preB_set hlt]
  exact h (i + 1) k2 j2 (by omega) hs
theorem AHp.skip (hw : wantA ops e o false) (h : AHp P m N Hs ops ka rest ks (put N e o.dst (.lit undef)) H K) : AHp P m N Hs ops ka (o :: rest) (0 :: ks) e H K := by
  intro i h1 h2 hi hs
  obtain ⟨k1, k2, k3⟩ := drop_head h1
  obtain ⟨j1, j2, _⟩ := drop_head h2
  have hlt : i < ops.size := by simpa using k3
  obtain ⟨q1, q2⟩ := sched_at hs hlt j1
  rw [if_pos (by rfl)] at q2
  simp only [Bool.and_eq_true] at q2
  have hf : ops.size - i = (ops.size - (i + 1)) + 1 := by omega
  rw [hf]
  refine AL.skip (i := i) (by simpa using k1) q1 q2.1.1.1 q2.1.1.2 q2.1.2 q2.2 hw ?_
  rw [preB_set hlt]
  exact h (i + 1) k2 j2 (by omega) hs
theorem AHp.one (hw : wantA ops e o true) (h : AOpS P m N o e H (fun e' H' => AHp P m N Hs ops ka rest ks e' H' K)) : AHp P m N Hs ops ka (o :: rest) (1 :: ks) e H K := by
  intro i h1 h2 hi hs
  obtain ⟨k1, k2, k3⟩ := drop_head h1
  obtain ⟨j1, j2, _⟩ := drop_head h2
  have hlt : i < ops.size := by simpa using k3
  obtain ⟨q1, q2⟩ := sched_at hs hlt j1
  rw [if_neg (by decide)] at q2
  simp only [beq_iff_eq] at q2
  have hf : ops.size - i = (ops.size - (i + 1)) + 1 := by omega
  rw [hf]
  refine AL.one (i := i) (by simpa using k1) q2 hw ?_
  rw [preB_set hlt]
  intro R F A w a G Q hi' he hG
  exact h R F A w a G Q hi' he fun a' w' e' H' A' k => hG a' w' e' H' A' (k (i + 1) k2 j2 (by omega) hs)
theorem AHp.skip1 (hw : wantA ops e o false) (h : AHp P m N Hs ops ka rest ks (put N e o.dst (.lit undef)) H K) : AHp P m N Hs ops ka (o :: rest) (1 :: ks) e H K := by
  intro i h1 h2 hi hs
  obtain ⟨k1, k2, k3⟩ := drop_head h1
  obtain ⟨j1, j2, _⟩ := drop_head h2
  have hlt : i < ops.size := by simpa using k3
  obtain ⟨q1, q2⟩ := sched_at hs hlt j1
  rw [if_neg (by decide)] at q2
  simp only [beq_iff_eq] at q2
  have hf : ops.size - i = (ops.size - (i + 1)) + 1 := by omega
  rw [hf]
  refine AL.skip1 (i := i) (by simpa using k1) q2 hw ?_
  rw [preB_set hlt]
  exact h (i + 1) k2 j2 (by omega) hs
theorem AHp.last (hw : wantA ops e o true) (h : AOp P m N o e H (fun e' H' => AZp P m N ops ka rest ks e' H' K)) : AHp P m N Hs ops ka (o :: rest) (2 :: ks) e H K := by
  intro i h1 h2 hi hs
  obtain ⟨k1, k2, k3⟩ := drop_head h1
  obtain ⟨j1, j2, _⟩ := drop_head h2
  have hlt : i < ops.size := by simpa using k3
  obtain ⟨q1, q2⟩ := sched_at hs hlt j1
  rw [if_neg (by decide)] at q2
  simp only [beq_iff_eq] at q2
  have hf : ops.size - i = (ops.size - (i + 1)) + 1 := by omega
  rw [hf]
  refine AL.last (i := i) (by simpa using k1) q2 ((mem_dsK j1).2 rfl) hw ?_
  rw [preB_set hlt]
  intro R F A w a G Q hi' he hG
  exact h R F A w a G Q hi' he fun a' w' e' H' R' A' k => hG a' w' e' H' R' A' (k (i + 1) k2 j2 (by omega) hs)
theorem AZp.one (hw : wantA ops e o true) (h : AOp P m N o e H (fun e' H' => AZp P m N ops ka rest ks e' H' K)) : AZp P m N ops ka (o :: rest) (2 :: ks) e H K := by
  intro i h1 h2 hi hs
  obtain ⟨k1, k2, k3⟩ := drop_head h1
  obtain ⟨j1, j2, _⟩ := drop_head h2
  have hlt : i < ops.size := by simpa using k3
  obtain ⟨q1, q2⟩ := sched_at hs hlt j1
  rw [if_neg (by decide)] at q2
  simp only [beq_iff_eq] at q2
  have hf : ops.size - i = (ops.size - (i + 1)) + 1 := by omega
  rw [hf]
  refine AZ.one (i := i) (by simpa using k1) q2 ((mem_dsK j1).2 rfl) hw ?_
  rw [preB_set hlt]
  intro R F A w a G Q hi' he hG
  exact h R F A w a G Q hi' he fun a' w' e' H' R' A' k => hG a' w' e' H' R' A' (k (i + 1) k2 j2 (by omega) hs)
theorem AZp.skip1 (hw : wantA ops e o false) (h : AZp P m N ops ka rest ks (put N e o.dst (.lit undef)) H K) : AZp P m N ops ka (o :: rest) (2 :: ks) e H K := by
  intro i h1 h2 hi hs
  obtain ⟨k1, k2, k3⟩ := drop_head h1
  obtain ⟨j1, j2, _⟩ := drop_head h2
  have hlt : i < ops.size := by simpa using k3
  obtain ⟨q1, q2⟩ := sched_at hs hlt j1
  rw [if_neg (by decide)] at q2
  simp only [beq_iff_eq] at q2
  have hf : ops.size - i = (ops.size - (i + 1)) + 1 := by omega
  rw [hf]
  refine AZ.skip1 (i := i) (by simpa using k1) q2 ((mem_dsK j1).2 rfl) hw ?_
  rw [preB_set hlt]
  exact h (i + 1) k2 j2 (by omega) hs
theorem AWp.regionP {id : Nat} {l : List Oper} {Q : Exit → Env → List AO → Prop} (ka : List Nat) (hm : P.follows .mixedOrders = true) (hs : schedB l.toArray ka = true)
    (h : AHp P m N H l.toArray ka l ka e H (fun e' H' => Q .normal e' H')) : AWp P m N (.region id l.toArray true) e H Q := by
  refine AWp.regionL hm (ds := dsK ka) ?_
  have := h 0 (by simp) (by simp) (Nat.zero_le _) hs
  rw [preB_zero] at this
  simpa using this
end
/-! ### the walk's own words -/
def ints (k : IntKind) (xs : List Int) : List AV := xs.map fun n => .lit (.int k n)

theorem ints_length (k : IntKind) (xs : List Int) : (ints k xs).length = xs.length := by simp [ints]
theorem noids_ints (k : IntKind) : ∀ xs : List Int, noids (ints k xs) = true
  | [] => rfl
  | x :: xs => by simp only [ints, List.map_cons, noids, noid, Bool.true_and]; exact noids_ints k xs
theorem norows_ints (k : IntKind) : ∀ xs : List Int, norows (ints k xs) = true
  | [] => rfl
  | x :: xs => by simp only [ints, List.map_cons, norows, norow, Bool.true_and]; exact norows_ints k xs
theorem ones_ints (k : IntKind) (xs : List Int) : (ints k xs).all AV.one = true := by simp [ints, AV.one, Value.oneCell']
theorem renVs_ints (f : Nat → Nat) (k : IntKind) : ∀ xs : List Int, renVs f (ints k xs) = ints k xs
  | [] => rfl
  | x :: xs => by simp only [ints, List.map_cons, renVs, renV]; exact congrArg _ (renVs_ints f k xs)
theorem ints_append (k : IntKind) (xs ys : List Int) : ints k xs ++ ints k ys = ints k (xs ++ ys) := by simp [ints]
theorem ints_snoc (k : IntKind) (xs : List Int) (n : Int) : ints k xs ++ [.lit (.int k n)] = ints k (xs ++ [n]) := by simp [ints]
theorem ints_set (k : IntKind) (xs : List Int) (i : Nat) (n : Int) : (ints k xs).set i (.lit (.int k n)) = ints k (xs.set i n) := by simp [ints, List.map_set]
theorem ints_replicate (k : IntKind) (n : Nat) (v : Int) : List.replicate n (AV.lit (.int k v)) = ints k (List.replicate n v) := by simp [ints]
theorem ints_nil (k : IntKind) : ([] : List AV) = ints k [] := rfl
theorem ints_get {k : IntKind} {xs : List Int} {i : Int} (h0 : 0 ≤ i) (h1 : i < xs.length) : ((ints k xs).drop i.toNat)[0]? = some (.lit (.int k (rd xs i))) := by
  have hlt : i.toNat < xs.length := by omega
  rw [List.getElem?_drop]
  simp [ints, rd, hlt, List.getD_eq_getElem?_getD]
theorem wrap_i64 (n : Int) : IntKind.i64.wrap n = Go.RowKit.wrap64 n := by rw [IntKind.wrap_i64]; unfold Go.RowKit.wrap64; omega

def Ty (P : Program) (t : TypeId) (size bytes : Nat) (z : Value) : Prop := ∃ i, P.info? t = some i ∧ i.size = size ∧ i.bytes = bytes ∧ i.zero = some z

theorem Ty.of {P : Program} {t : TypeId} {size bytes : Nat} {z : Value} (h : (P.info? t).map (fun i => (i.size, i.bytes, i.zero)) = some (size, bytes, some z)) : Ty P t size bytes z := by
  cases hi : P.info? t with
  | none => rw [hi] at h; cases h
  | some i =>
    rw [hi] at h
    simp only [Option.map_some, Option.some.injEq, Prod.mk.injEq] at h
    exact ⟨i, hi, h.1, h.2.1, h.2.2⟩

section
variable {P : Program} {m N : Nat} {e e' : Env} {H H' H'' : List AO} {K : Env → List AO → Prop} {o : Oper} {ops : Array Oper} {rest : List Oper} {v v' : AV}

theorem L.y (hy : AYield P N o e H v) (hv : v = v') (hp : put N e o.dst v' = e') (hw : wantA ops e o true) (hn : AList P m N ops rest e' H K) : AList P m N ops (o :: rest) e H K := by
  subst hv; subst hp; exact AList.op hw hy.step hn
theorem L.s (hs : AStep P N o e H v H') (hv : v = v') (hH : H' = H'') (hp : put N e o.dst v' = e') (hw : wantA ops e o true) (hn : AList P m N ops rest e' H'' K) : AList P m N ops (o :: rest) e H K := by
  subst hv; subst hH; subst hp; exact AList.op hw hs hn
end

/-- Where the walk stands, seen as another standing (fewer objects, rows lent for good, empty rows that are nil). -/
def nsO : TypeId × Nat → AO
  | (_, 0) => .gone
  | (t, s + 1) => .nil t (s + 1)
/-- The first m places: the same objects, or given up. -/
def BaseOk (ρ : List Nat) (H0 : List AO) (m : Nat) : Prop := ∀ j, j < m → ρ[j]? = some j ∨ H0[j]? = some .gone
theorem gone_ext {o : AO} {A : Nat → Value} {H : List AO} {A' : Nat → Value} {i : Nat} {p : AO} (h : p = .gone ∨ (AO.gone.len ≤ p.len ∧ AO.gone.kind = p.kind ∧ (AO.gone.len = p.len → A' i = A i))) : p = .gone := by
  rcases h with h | ⟨_, h, _⟩
  · exact h
  · cases p <;> simp_all [AO.kind]
structure Part (m : Nat) (e : Env) (H : List AO) (e0 : Env) (H0 : List AO) where
  ns : List (TypeId × Nat)
  ρ : List Nat
  nd : ρ.Nodup
  hs : SubH true ρ (H ++ ns.map nsO) ρ H0
  base : BaseOk ρ H0 m
  he : SubE true ρ (H ++ ns.map nsO) e e0

def IsPart (m : Nat) (e : Env) (H : List AO) (e0 : Env) (H0 : List AO) : Prop := Nonempty (Part m e H e0 H0)

section
variable {R F : Nat → Prop} {A : Nat → Value} {w : World} {N : Nat} {a : Act}

theorem Inv.addGone {H : List AO} {A : Nat → Value} (hi : Inv R F A H w) : Inv R F A (H ++ [.gone]) w ∧ Stp H.length R F A H w R A (H ++ [.gone]) w := by
  have hst : Stp H.length R F A H w R A (H ++ [.gone]) w := by
    refine ⟨fun _ h => h, fun _ _ => rfl, ?_, rfl, rfl, rfl, Nat.le_refl _⟩
    intro i p hlt hp
    exact ⟨p, by rw [List.getElem?_append_left hlt]; exact hp, .inr ⟨Nat.le_refl _, rfl, fun _ => rfl⟩⟩
  have split : ∀ (i : Nat) (p : AO), (H ++ [AO.gone])[i]? = some p → p = .gone ∨ H[i]? = some p := by
    intro i p hp
    by_cases hlt : i < H.length
    · rw [List.getElem?_append_left hlt] at hp; exact .inr hp
    · rw [List.getElem?_append_right (by omega)] at hp
      have hlt2 := (List.getElem?_eq_some_iff.1 hp).1
      simp at hlt2
      have : i = H.length := by omega
      subst this
      simp at hp
      exact .inl hp.symm
  refine ⟨⟨hi.rf, hi.rlt, hi.flt, ?_, ?_, ?_, hi.tab⟩, hst⟩
  · intro i p b hp hg hb
    exact hi.own i p b ((split i p hp).resolve_left hg) hg hb
  · intro i j p q b hp hq hgp hgq hb hc
    exact hi.inj i j p q b ((split i p hp).resolve_left hgp) ((split j q hq).resolve_left hgq) hgp hgq hb hc
  · intro i p hp
    rcases split i p hp with rfl | hp
    · trivial
    · by_cases hg : p = .gone
      · subst hg; trivial
      · exact OInv.mono hst (fun b _ => rfl) (hi.obj i p hp)
theorem Inv.nils {e : Env} : ∀ (ns : List (TypeId × Nat)) {H : List AO} {A : Nat → Value}, Inv R F A H w → EnvOk R A H w N e a → ∃ A', Inv R F A' (H ++ ns.map nsO) w ∧
    EnvOk R A' (H ++ ns.map nsO) w N e a ∧ Stp H.length R F A H w R A' (H ++ ns.map nsO) w ∧ (∀ i, i < H.length → A' i = A i)
  | [], H, A, hi, he => ⟨A, by simpa using hi, by simpa using he, by simpa using Stp.refl _ _ _ _ _ _, fun _ _ => rfl⟩
  | (t, 0) :: ns, H, A, hi, he => by
    have h1 := Inv.addGone hi
    obtain ⟨A', h2, h3, h4, h5⟩ := Inv.nils ns h1.1 (he.stp h1.2)
    refine ⟨A', by simpa [nsO] using h2, by simpa [nsO] using h3, ?_, fun i hi => h5 i (by simp; omega)⟩
    have h6 : Stp H.length R F A (H ++ [.gone]) w R A' (H ++ [.gone] ++ ns.map nsO) w := h4.any
    simpa [nsO] using h1.2.trans h6
  | (t, s + 1) :: ns, H, A, hi, he => by
    have h1 := Inv.push (w' := w) (c := .slice none 0 0) (o := .nil t (s + 1)) hi (by simp) (Nat.le_refl _) (fun _ _ => rfl) rfl rfl rfl (fun b hb => by simp [blk] at hb) (fun _ => rfl)
    obtain ⟨A', h2, h3, h4, h5⟩ := Inv.nils ns h1.1 (he.stp h1.2)
    refine ⟨A', by simpa [nsO] using h2, by simpa [nsO] using h3, ?_, fun i hi => ?_⟩
    · have h6 : Stp H.length R F (fun i => if i = H.length then .slice none 0 0 else A i) (H ++ [.nil t (s + 1)]) w R A' (H ++ [.nil t (s + 1)] ++ ns.map nsO) w := h4.any
      simpa [nsO] using h1.2.trans h6
    · rw [h5 i (by simp; omega), if_neg (by omega)]
end

section
variable {P : Program} {m N : Nat} {c : Code} {Q : Exit → Env → List AO → Prop} {e e0 : Env} {H H0 : List AO}

theorem AWp.isPart (hp : IsPart m e H e0 H0) (h : AWp P m N c e0 H0 Q) : AWp P m N c e H Q := by
  obtain ⟨⟨ns, ρ, nd, hs, base, he⟩⟩ := hp
  intro R F A w a hi hE
  obtain ⟨A1, h1, h2, h3, h4⟩ := Inv.nils ns hi hE
  have hmin : BaseOk ρ H0 (min m H.length) := fun j hj => base j (by omega)
  -- only the objects that stood before have to go on
  have hres := AWp.part (m := min m H.length) (Q := Q) (P := P) (N := N) (c := c) ρ nd hs hmin he (fun R F A w a hi hE => wp_mono (h R F A w a hi hE) fun _ _ _ ⟨e', H', R', A', q1, q2, q3, q4⟩ => ⟨e', H', R', A', q1, q2, q3, q4.weak (Nat.min_le_left _ _)⟩) R F A1 w a h1 h2
  refine wp_mono hres ?_
  rintro x a' w' ⟨e', H', R', A', q1, q2, q3, q4⟩
  have h3' : Stp (min m H.length) R F A H w R A1 (H ++ ns.map nsO) w := h3.weak (Nat.min_le_right _ _)
  have h5 := h3'.trans q4
  exact ⟨e', H', R', A', q1, q2, q3, ⟨h5.rr, h5.keep, fun i o hlt ho => h5.ext i o (by have := (List.getElem?_eq_some_iff.1 ho).1; omega) ho, h5.os, h5.tape, h5.output, h5.size⟩⟩

/-- A loop: whatever way leads to its head, what is known there is one of 'I'; the number goes down. -/
theorem AWp.loopI (I : Nat → Env → List AO → Prop) {k : Nat} (h0 : ∃ e0 H0, I k e0 H0 ∧ IsPart m e H e0 H0)
    (round : ∀ k e H, I k e H → AWp P m N c e H (thn (fun e' H' => ∃ k', k' < k ∧ ∃ e0 H0, I k' e0 H0 ∧ IsPart m e' H' e0 H0) Q)) : AWp P m N (.loop c) e H Q := by
  obtain ⟨e0, H0, hI, hp⟩ := h0
  exact AWp.loop (fun k e H => ∃ e0 H0, I k e0 H0 ∧ IsPart m e H e0 H0) (fun k e H ⟨e0, H0, hI, hp⟩ => AWp.isPart hp (round k e0 H0 hI)) ⟨e0, H0, hI, hp⟩

/-- Ways that meet. -/
theorem AWp.cut {y : Code} (M : Env → List AO → Prop) (h1 : AWp P m N c e H (thn (fun e' H' => ∃ e0 H0, M e0 H0 ∧ IsPart m e' H' e0 H0) Q)) (h2 : ∀ e0 H0, M e0 H0 → AWp P m N y e0 H0 Q) : AWp P m N (.seq c y) e H Q :=
  AWp.seq (h1.conseq fun x e' H' hq => by
    cases x with
    | normal => obtain ⟨e0, H0, hM, hp⟩ := hq; exact AWp.isPart hp (h2 e0 H0 hM)
    | _ => exact hq)
end

/-- What a function hands back, and what it leaves. -/
theorem ACalls.ofP {P : Program} {f : FuncId} {fn : Func} {c : Code} {avs : List AV} {H : List AO} {Q : AV → List AO → Prop} (rs : List Nat)
    (hf : P.funcs[f]? = some fn) (hb : fn.body = some c) (hn : avs.length ≤ fn.ntmps) (hres : fn.results = (rs.map ResultVar.tmp).toArray) (hlen : rs.length ≤ 4)
    (h : AWp P H.length fn.ntmps c (env0 avs 0) H (fun x e H' => (x = .normal ∨ x = .ret) ∧ ∃ e0 H0, Q (resA e0 rs) H0 ∧ IsPart H.length e H' e0 H0)) : ACalls P f avs H Q := by
  refine ACalls.of rs hf hb hn hres hlen ?_
  intro R F A w a hi he
  refine wp_mono (h R F A w a hi he) ?_
  rintro x a' w' ⟨e', H', R', A', ⟨hx, e0, H0, hq, hp⟩, hi', he', hs⟩
  -- the standing is seen as the other one: as by a piece of code that does nothing
  obtain ⟨⟨ns, ρ, nd, hsH, base, hE⟩⟩ := hp
  obtain ⟨A1, h1, h2, h3, h4⟩ := Inv.nils ns hi' he'
  have hi0 := h1.part nd hsH
  have hFL : FL true F ρ A1 (H' ++ ns.map nsO) w' = F := by funext b; simp [FL]
  rw [hFL] at hi0
  have hA := hsH.hA (A := A1)
  have he1 : EnvOk (RL true R' ρ A1 (H' ++ ns.map nsO) w') (fun j => A1 (ρ.getD j 0)) H0 w' fn.ntmps e0 a' := by
    refine ⟨h2.defers, h2.size, fun p hp => ?_⟩
    obtain ⟨x, hx, hsub⟩ := hE.get p hp
    obtain ⟨c, k1, k2⟩ := h2.at_ _ hx
    exact ⟨c, k1, Sub.ok h1 (fun b hb => .inl hb) (fun hl i o b h1 h2 h3 h4 => .inr ⟨hl, i, o, h1, h2, h3, h4⟩) hA hsub k2⟩
  refine ⟨e0, H0, _, _, ⟨hx, hq⟩, hi0, he1, ⟨fun b hb => .inl (hs.rr b hb), hs.keep, ?_, hs.os, hs.tape, hs.output, hs.size⟩⟩
  intro i o hlt hio
  obtain ⟨o', k1, k2⟩ := hs.ext i o hlt hio
  have hB' := (List.getElem?_eq_some_iff.1 k1).1
  rcases base i hlt with hj | hj
  rotate_left
  · exact ⟨.gone, hj, .inl rfl⟩
  obtain ⟨o1, o0, q1, q2, q3⟩ := hsH.get i i hj
  rw [List.getElem?_append_left hB', k1] at q1
  cases q1
  obtain ⟨s1, s2, s3⟩ := q3.same
  refine ⟨o0, q2, ?_⟩
  rcases k2 with k2 | ⟨k2, k3, k4⟩
  · exact .inl (s3.2 k2)
  · exact .inr ⟨by omega, by rw [k3, ← s2], fun e => by
      rw [← k4 (by omega), ← h4 i hB']
      simp [List.getD_eq_getElem?_getD, hj]⟩

/-- A value and what it leads to, seen as another. -/
structure PartV (m : Nat) (r : AV) (H : List AO) (r0 : AV) (H0 : List AO) where
  ns : List (TypeId × Nat)
  ρ : List Nat
  nd : ρ.Nodup
  hs : SubH true ρ (H ++ ns.map nsO) ρ H0
  base : BaseOk ρ H0 m
  hr : Sub true ρ (H ++ ns.map nsO) r r0

def Res (P : Program) (fn : Func) (N : Nat) (e : Env) (H : List AO) (r : AV) : Prop :=
  ∀ R F A w a, Inv R F A H w → EnvOk R A H w N e a → ∃ v, (results fn a.tmps).run P w = .ok v w ∧ VR R A H w r v

theorem ACalls.ofV {P : Program} {f : FuncId} {fn : Func} {c : Code} {avs : List AV} {H : List AO} {Q : AV → List AO → Prop}
    (hf : P.funcs[f]? = some fn) (hb : fn.body = some c) (hn : avs.length ≤ fn.ntmps)
    (h : AWp P H.length fn.ntmps c (env0 avs 0) H (fun x e H' => (x = .normal ∨ x = .ret) ∧ ∃ r r0 H0, Res P fn fn.ntmps e H' r ∧ Q r0 H0 ∧ Nonempty (PartV H.length r H' r0 H0))) : ACalls P f avs H Q := by
  intro R F A w vs hi hvs
  have hl := hvs.length
  refine calls_of_wp hf hb ?_
  have he : EnvOk R A H w fn.ntmps (env0 avs 0) { tmps := vs.toArray ++ Array.replicate (fn.ntmps - vs.toArray.size) undef, defers := [] } := by
    refine ⟨rfl, by simp; omega, ?_⟩
    intro p hp
    obtain ⟨j, h1, h2⟩ := env0_mem avs 0 p hp
    obtain ⟨v, h3, h4⟩ := hvs.get j _ h2
    have hj : j < vs.length := (List.getElem?_eq_some_iff.1 h3).1
    refine ⟨v, ?_, h4⟩
    simp only [Nat.zero_add] at h1
    rw [h1, Array.getElem?_append_left (by simpa using hj)]
    simpa using h3
  refine wp_mono (h R F A w _ hi he) ?_
  rintro x a' w' ⟨e', H', R', A', ⟨hx, r, r0, H0, hres, hq, ⟨⟨ns, ρ, nd, hsH, base, hr⟩⟩⟩, hi', he', hs⟩
  obtain ⟨v, hv1, hv2⟩ := hres R' F A' w' a' hi' he'
  obtain ⟨A1, h1, h2, h3, h4⟩ := Inv.nils ns hi' he'
  have hv3 : VR R' A1 (H' ++ ns.map nsO) w' r v := by
    have h3' : Stp H'.length R' F A' H' w' R' A1 (H' ++ ns.map nsO) w' := h3
    exact h3'.vr hv2
  have hi0 := h1.part nd hsH
  have hFL : FL true F ρ A1 (H' ++ ns.map nsO) w' = F := by funext b; simp [FL]
  rw [hFL] at hi0
  have hA := hsH.hA (A := A1)
  have hv4 := Sub.ok h1 (R0 := RL true R' ρ A1 (H' ++ ns.map nsO) w') (fun b hb => .inl hb) (fun hl i o b h1 h2 h3 h4 => .inr ⟨hl, i, o, h1, h2, h3, h4⟩) hA hr hv3
  have hst : Stp H.length R F A H w (RL true R' ρ A1 (H' ++ ns.map nsO) w') (fun j => A1 (ρ.getD j 0)) H0 w' := by
    refine ⟨fun b hb => .inl (hs.rr b hb), hs.keep, ?_, hs.os, hs.tape, hs.output, hs.size⟩
    intro i o hlt hio
    obtain ⟨o', k1, k2⟩ := hs.ext i o hlt hio
    have hB' := (List.getElem?_eq_some_iff.1 k1).1
    rcases base i hlt with hj | hj
    rotate_left
    · exact ⟨.gone, hj, .inl rfl⟩
    obtain ⟨o1, o0, q1, q2, q3⟩ := hsH.get i i hj
    rw [List.getElem?_append_left hB', k1] at q1
    cases q1
    obtain ⟨s1, s2, s3⟩ := q3.same
    refine ⟨o0, q2, ?_⟩
    rcases k2 with k2 | ⟨k2, k3, k4⟩
    · exact .inl (s3.2 k2)
    · exact .inr ⟨by omega, by rw [k3, ← s2], fun e => by
        rw [← k4 (by omega), ← h4 i hB']
        simp [List.getD_eq_getElem?_getD, hj]⟩
  rcases hx with rfl | rfl
  · exact ⟨he'.defers, v, hv1, v, r0, H0, _, _, rfl, hq, hi0, hv4, hst⟩
  · exact ⟨he'.defers, v, hv1, v, r0, H0, _, _, rfl, hq, hi0, hv4, hst⟩

/-- A struct that is handed back out of its variable. -/
theorem Res.cell {P : Program} {fn : Func} {N p t id et sz by_ : Nat} {zv : Value} {d : TypeDesc} {e : Env} {H : List AO} {cells : List AV} {r : AV} (hres : fn.results = #[.cell p t]) (hu : P.underlying t = some d) (hd : d.isRow = true) (ty : Ty P t sz by_ zv)
    (hp : look e p = .ptr id 0) (hH : H[id]? = some (.bx et cells)) (hl : sz = cells.length) (hr : r = .agg cells) : Res P fn N e H r := by
  subst hr
  intro R F A w a hi he
  obtain ⟨i, hinf, hs, _⟩ := ty
  have hv := he.look p
  rw [hp] at hv
  have hm : mem H (.ptr id 0) = some cells := by simp only [mem, hH, List.drop_zero]
  obtain ⟨ad, vs, h1, h2, h3, h4⟩ := mem_sound hi hv hm
  have hlen := h3.length
  refine ⟨.agg vs.toArray, ?_, by simp only [VR]; exact ⟨_, h3, rfl⟩⟩
  have hp0 : ad = ⟨ad.block, ad.off, none⟩ := by cases ad; cases h2; rfl
  have hr : w.rangeAt ad.block ad.off vs := by
    intro j v hj
    rw [← Addr.add_mid, ← hp0]
    exact h4 j v hj
  have := run_loadVar_mid (P := P) w ad.block ad.off t vs d hr hu hd (by rw [hinf]; simp; omega)
  rw [← hp0] at this
  have h1' : a.tmps[p]?.getD undef = .pointer (some ad) := by simpa using h1
  simp [results, hres, h1', asAddr, this]

def Pl (P : Program) (t : TypeId) (places : Array (Nat × Nat)) : Prop := ∀ fields, P.underlying t = some (.struct fields) → ∀ w, (fields.mapM (m := Sem) fun f => do pure (f.offset, ← sizeOf f.type)).run P w = .ok places w
theorem Ty.sizeOf {P : Program} {t : TypeId} {size bytes : Nat} {z : Value} (h : Ty P t size bytes z) (w : World) : (sizeOf t).run P w = .ok size w := by
  obtain ⟨i, h1, h2, _⟩ := h
  simp [Go.sizeOf, typeInfo, h1, h2]
theorem VRs_ints {R : Nat → Prop} {A : Nat → Value} {H : List AO} {w : World} (k : IntKind) : ∀ xs : List Int, VRs R A H w (ints k xs) (xs.map (Value.int k))
  | [] => by simp [ints, VRs]
  | x :: xs => by
    have := VRs_ints (R := R) (A := A) (H := H) (w := w) k xs
    simp only [ints, List.map_cons, VRs] at this ⊢
    exact ⟨by simp [VR], this⟩
/-- A row that came in, as a row that is only read. -/
theorem VR.came {A0 : Nat → Value} {H : List AO} {w : World} {k : IntKind} {A : Option Addr} {n c : Nat} {z : List Int}
    (h : (A = none ∧ n = 0 ∧ c = 0 ∧ z = []) ∨ ∃ x, A = some x ∧ n ≤ c ∧ c ≤ maxLen ∧ z.length = c ∧ (∀ i, i < z.length → w.cell? (x.add i) = some (.int k (z.getD i 0))) ∧ ∀ m ∈ z, (Lit.int k m).wf = true) :
    (z.take n).length = n ∧ VR (fun b => b < w.heap.size) A0 H w (.row 1 (z.take n).length false (ints k (z.take n))) (.slice A n c) := by
  rcases h with ⟨rfl, rfl, rfl, rfl⟩ | ⟨x, rfl, h1, h2, h3, h4, h5⟩
  · exact ⟨rfl, by simp [VR, ints]⟩
  · have hl : (z.take n).length = n := by rw [List.length_take]; omega
    refine ⟨hl, ?_⟩
    rw [hl]
    simp only [VR]
    refine .inr ⟨x, c, (z.take n).map (Value.int k), rfl, ?_, h1, by simp; omega, ?_, ?_⟩
    · intro hn
      have h6 := h4 0 (by omega)
      unfold World.cell? at h6
      have hb : (x.add 0).block = x.block := by unfold Addr.add; split <;> rfl
      have hs : (x.add 0).spot.isSome = x.spot.isSome := by unfold Addr.add; split <;> simp_all
      rw [hb] at h6
      split at h6
      · rename_i h7
        refine ⟨?_, ?_⟩
        · rcases Nat.lt_or_ge x.block w.heap.size with h8 | h8
          · exact h8
          · rw [Array.getElem?_eq_none h8] at h7; cases h7
        · rw [hs] at h6
          cases hx : x.spot with
          | none => rfl
          | some q => rw [hx] at h6; simp at h6
      · cases h6
    · exact VRs_ints _ _
    · intro j u hu
      rw [List.getElem?_map] at hu
      obtain ⟨y, hy, rfl⟩ := Option.map_eq_some_iff.1 hu
      have hj : j < n := by have := (List.getElem?_eq_some_iff.1 hy).1; omega
      rw [h4 j (by omega)]
      rw [List.getElem?_take_of_lt hj] at hy
      rw [List.getD_eq_getElem?_getD, hy]
      rfl
/-- A law's call: it answers true, and leaves what was there. -/
theorem ACalls.law {P : Program} {f : FuncId} {avs : List AV} {w : World} {vs : List Value} {b : Bool} (ht : TabP (fun b => b < w.heap.size) w) (h : ACalls P f avs [] (fun v H' => v = .lit (.bool b) ∧ H' = []))
    (hv : VRs (fun b => b < w.heap.size) (fun _ => .bool false) [] w avs vs) : Calls P f vs.toArray w fun e w' => e = .returned (.bool b) ∧ Below w.heap.size w w' := by
  have hi : Inv (fun b => b < w.heap.size) (fun _ => False) (fun _ => .bool false) [] w := ⟨fun _ _ h => h, fun _ h => h, fun _ h => h.elim, by simp, by simp, by simp, ht⟩
  refine (h _ _ _ w vs hi hv).mono ?_
  rintro e w' ⟨v, r, H', R', A', rfl, ⟨rfl, rfl⟩, h3, h4, h5⟩
  simp only [VR] at h4
  subst h4
  exact ⟨rfl, h5.os, h5.tape, h5.output, h5.size, fun k hk => h5.keep k (.inl hk)⟩
section
variable {R : Nat → Prop} {A : Nat → Value} {H : List AO} {w : World}
theorem VRs_nil : VRs R A H w [] [] := by simp [VRs]
theorem VRs_cons {x : AV} {v : Value} {xs : List AV} {vs : List Value} (h : VR R A H w x v) (k : VRs R A H w xs vs) : VRs R A H w (x :: xs) (v :: vs) := by simp only [VRs]; exact ⟨h, k⟩
theorem VR_lit {v : Value} : VR R A H w (.lit v) v := by simp [VR]
theorem VR_agg {xs : List AV} {vs : List Value} (h : VRs R A H w xs vs) : VR R A H w (.agg xs) (.agg vs.toArray) := by simp only [VR]; exact ⟨vs, h, rfl⟩
theorem came_fits {k : IntKind} {A : Option Addr} {n c : Nat} {z : List Int}
    (h : (A = none ∧ n = 0 ∧ c = 0 ∧ z = []) ∨ ∃ x, A = some x ∧ n ≤ c ∧ c ≤ maxLen ∧ z.length = c ∧ (∀ i, i < z.length → w.cell? (x.add i) = some (.int k (z.getD i 0))) ∧ ∀ m ∈ z, (Lit.int k m).wf = true) :
    (z.take n).length ≤ maxLen ∧ ∀ m ∈ z.take n, (Lit.int k m).wf = true := by
  rcases h with ⟨rfl, rfl, rfl, rfl⟩ | ⟨x, rfl, h1, h2, h3, h4, h5⟩
  · simp
  · exact ⟨by rw [List.length_take]; omega, fun m hm => h5 m (List.mem_of_mem_take hm)⟩
end
def resGet (tmps : Array Value) : ResultVar → Sem Value
  | .tmp t => pure (tmps.getD t undef)
  | .cell a t => do loadVar t (← asAddr (tmps.getD a undef))
def Res1 (P : Program) (rv : ResultVar) (N : Nat) (e : Env) (H : List AO) (r : AV) : Prop :=
  ∀ R F A w a, Inv R F A H w → EnvOk R A H w N e a → ∃ v, (resGet a.tmps rv).run P w = .ok v w ∧ VR R A H w r v
theorem Res.two {P : Program} {fn : Func} {N : Nat} {e : Env} {H : List AO} {ra rb : ResultVar} {x y : AV} (hres : fn.results = #[ra, rb]) (ha : Res1 P ra N e H x) (hb : Res1 P rb N e H y) : Res P fn N e H (.tup [x, y]) := by
  intro R F A w a hi he
  obtain ⟨v1, h1, k1⟩ := ha R F A w a hi he
  obtain ⟨v2, h2, k2⟩ := hb R F A w a hi he
  refine ⟨.tuple #[v1, v2], ?_, by simp only [VR, VRs]; exact ⟨[v1, v2], by simp [VRs, k1, k2], rfl⟩⟩
  have : results fn a.tmps = (do let vs ← (#[ra, rb] : Array ResultVar).mapM (resGet a.tmps); pure (if h : vs.size = 1 then vs[0] else .tuple vs)) := by
    unfold results
    rw [hres]
    rfl
  rw [this]
  simp [h1, h2]
theorem Res1.tmp {P : Program} {t N : Nat} {e : Env} {H : List AO} : Res1 P (.tmp t) N e H (look e t) := by
  intro R F A w a hi he
  refine ⟨a.tmps.getD t undef, rfl, ?_⟩
  have := he.look t
  simpa using this
theorem Res1.cell {P : Program} {N p t id et sz by_ : Nat} {zv : Value} {d : TypeDesc} {e : Env} {H : List AO} {cells : List AV} (hu : P.underlying t = some d) (hd : d.isRow = true) (ty : Ty P t sz by_ zv)
    (hp : look e p = .ptr id 0) (hH : H[id]? = some (.bx et cells)) (hl : sz = cells.length) : Res1 P (.cell p t) N e H (.agg cells) := by
  intro R F A w a hi he
  obtain ⟨i, hinf, hs, _⟩ := ty
  have hv := he.look p
  rw [hp] at hv
  have hm : mem H (.ptr id 0) = some cells := by simp only [mem, hH, List.drop_zero]
  obtain ⟨ad, vs, h1, h2, h3, h4⟩ := mem_sound hi hv hm
  have hlen := h3.length
  refine ⟨.agg vs.toArray, ?_, by simp only [VR]; exact ⟨_, h3, rfl⟩⟩
  have hp0 : ad = ⟨ad.block, ad.off, none⟩ := by cases ad; cases h2; rfl
  have hr : w.rangeAt ad.block ad.off vs := by
    intro j v hj
    rw [← Addr.add_mid, ← hp0]
    exact h4 j v hj
  have := run_loadVar_mid (P := P) w ad.block ad.off t vs d hr hu hd (by rw [hinf]; simp; omega)
  rw [← hp0] at this
  have h1' : a.tmps[p]?.getD undef = .pointer (some ad) := by simpa using h1
  simp [resGet, h1', asAddr, this]
/-- A function's number that may be called. -/
def FnOk (P : Program) (f : FuncId) : Prop := ∃ fn, P.funcs[f]? = some fn ∧ (fn.name == "runtime.NumGoroutine") = false ∧ fn.body.isSome = true
theorem FnOk.at_ {P : Program} {f : FuncId} {fn : Func} (h : P.funcs[f]? = some fn) (hn : (fn.name == "runtime.NumGoroutine") = false := by exact rfl) (hb : fn.body.isSome = true := by exact rfl) : FnOk P f := ⟨fn, h, hn, hb⟩
/-- A function of numbers that leaves the world as it is. -/
theorem ACalls.same {P : Program} {f : FuncId} {vs : List Value} {r : Value} (h : ∀ R w, TabP R w → Calls P f vs.toArray w fun e w' => e = .returned r ∧ w' = w) :
    ACalls P f (vs.map AV.lit) [] (fun v H' => v = .lit r ∧ H' = []) := by
  intro R F A w us hi hus
  have hu : us = vs := by
    have : ∀ (vs us : List Value), VRs R A [] w (vs.map AV.lit) us → us = vs := by
      intro vs
      induction vs with
      | nil => intro us k; cases us <;> simp [VRs] at k ⊢
      | cons v vs ih =>
        intro us k
        cases us with
        | nil => simp [VRs] at k
        | cons u us =>
          simp only [List.map_cons, VRs, VR] at k
          rw [k.1, ih us k.2]
    exact this vs us hus
  subst hu
  refine (h R w hi.tab).mono ?_
  rintro e w' ⟨rfl, rfl⟩
  exact ⟨r, .lit r, [], R, A, rfl, ⟨rfl, rfl⟩, hi, by simp [VR], Stp.refl ..⟩
/-! ### a region that draws: a tree of orders, one check for the whole tree -/
inductive Sc where
  | done
  | y (i : Nat) (s : Sc)
  | t (i : Nat) (s : Sc)
  | one (i : Nat) (s : Sc)
  | two (i : Nat) (s : Sc) (j : Nat) (s2 : Sc)
  | last (i : Nat) (s : Sc)
  | mix (i : Nat) (s : Sc) (j : Nat) (s2 : Sc)
  | ld (i : Nat) (s : Sc)

def Sc.ok (ops : Array Oper) (ds : List Nat) : Sc → Nat → Array Bool → Bool → Bool
  | .done, _, l, _ => Region.ready .any ops l == []
  | .y i s, n + 1, l, b => Region.free .any ops l i && (Region.ready .any ops l).contains i && s.ok ops ds n (l.setIfInBounds i true) b
  | .t i s, n + 1, l, b => b && Region.free .any ops l i && (Region.ready .any ops l).contains i && Region.closedB .any ops l && Region.lastB .any ops l ds i && s.ok ops ds n (l.setIfInBounds i true) b
  | .one i s, n + 1, l, b => Region.ready .any ops l == [i] && ds.contains i == !b && s.ok ops ds n (l.setIfInBounds i true) b
  | .two i s j s2, n + 1, l, b => Region.ready .any ops l == [i, j] && ds.contains i == !b && ds.contains j == !b && s.ok ops ds n (l.setIfInBounds i true) b && s2.ok ops ds n (l.setIfInBounds j true) b
  | .last i s, n + 1, l, b => b && Region.ready .any ops l == [i] && ds.contains i && s.ok ops ds n (l.setIfInBounds i true) false
  | .mix i s j s2, n + 1, l, b => b && (Region.ready .any ops l == [i, j] || Region.ready .any ops l == [j, i]) && !ds.contains i && ds.contains j && s.ok ops ds n (l.setIfInBounds i true) true && s2.ok ops ds n (l.setIfInBounds j true) false
  | .ld i s, n + 1, l, b => !b && Region.ready .any ops l == [i] && s.ok ops ds n (l.setIfInBounds i true) b
  | _, 0, _, _ => false

def nthO : List Oper → Nat → Option Oper
  | [], _ => none
  | o :: _, 0 => some o
  | _ :: r, n + 1 => nthO r n
theorem nthO_eq : ∀ (l : List Oper) (i : Nat), nthO l i = l[i]?
  | [], _ => rfl
  | _ :: _, 0 => rfl
  | _ :: r, n + 1 => nthO_eq r n

/-- The operation is not carried out. -/
def unwA (ops : Array Oper) (e : Env) (o : Oper) : Prop := ∀ R A H w N a, EnvOk R A H w N e a → Region.wanted o (yielded ops a.tmps) = false
theorem unwA.of {ops : Array Oper} {e : Env} {o : Oper} (h : wantA ops e o false) : unwA ops e o := fun _ _ _ _ _ _ he => wanted_of h he
theorem unwA.und {ops : Array Oper} {e : Env} {o : Oper} {j tt : Nat} {want : Bool} (hg : o.guard = some (j, want)) (hd : (ops[j]?).bind (·.dst) = some tt) (hb : look e tt = .lit undef) : unwA ops e o := by
  intro R A H w N a he
  have hm : (tt, AV.lit undef) ∈ e := by
    rcases look_mem e tt with k | k
    · rw [hb] at k; cases k
    · rw [hb] at k; exact k
  obtain ⟨c, k1, k2⟩ := he.at_ _ hm
  simp only [VR] at k2
  subst k2
  unfold Region.wanted
  rw [hg]
  simp only [yielded, hd, Option.bind_some, k1]
  rfl

section
variable {P : Program} {m N : Nat} {e e' : Env} {H Hs H' : List AO} {K : Env → List AO → Prop} {l : List Oper} {ds : List Nat} {o : Oper} {v : AV} {i : Nat} {s s2 : Sc} {g : Bool}

/-- The objects that the operations of the region may change are not held. -/
def maskB : List Bool → List AO → List AO
  | b :: bs, o :: os => (if b then .gone else o) :: maskB bs os
  | _, os => os
theorem maskB_get : ∀ (bs : List Bool) (H : List AO) (i : Nat) (o : AO), o ≠ .gone → (maskB bs H)[i]? = some o → H[i]? = some o
  | [], H, i, o, _, h => by simpa [maskB] using h
  | _ :: _, [], i, o, _, h => by simp [maskB] at h
  | b :: bs, p :: H, 0, o, hg, h => by
    cases b
    · simpa [maskB] using h
    · simp [maskB] at h; exact absurd h.symm hg
  | b :: bs, p :: H, i + 1, o, hg, h => by
    simp only [maskB, List.getElem?_cons_succ] at h ⊢
    exact maskB_get bs H i o hg h
theorem maskB_n (H : List AO) : maskB [] H = H := by cases H <;> rfl
theorem maskB_c (b : Bool) (bs : List Bool) (o : AO) (os : List AO) : maskB (b :: bs) (o :: os) = (if b = true then .gone else o) :: maskB bs os := rfl
def HeldIn (Hs H : List AO) : Prop := ∀ (i : Nat) (o : AO), o ≠ .gone → Hs[i]? = some o → H[i]? = some o
/-- While what stood when the region began still stands (g: there may be more that is only read). -/
def AT (P : Program) (m N : Nat) (g : Bool) (Hs : List AO) (l : List Oper) (ds : List Nat) (s : Sc) (e : Env) (H : List AO) (K : Env → List AO → Prop) : Prop :=
  ∀ n li, Region.noSelect l.toArray = true → s.ok l.toArray ds n li true = true → ∀ R0 R F A w0 A0 w a (G : Act → World → Prop), (∀ b, R0 b → R b) → (g = false → ∀ b, R b → R0 b) → Inv R F A H w → EnvOk R A H w N e a → HeldIn Hs H →
    (∀ (i : Nat) (o : AO), o ≠ .gone → Hs[i]? = some o → A i = A0 i) → HS R0 A0 Hs w0 w →
    (∀ a' w' e' H' R' A', K e' H' → Inv R' F A' H' w' → EnvOk R' A' H' w' N e' a' → Stp m R F A H w R' A' H' w' → G a' w') → wpAnyLast P .any l.toArray (onlyG G) (HS R0 A0 Hs w0) ds n li a w
/-- Behind the first operation that writes. -/
def AU (P : Program) (m N : Nat) (l : List Oper) (ds : List Nat) (s : Sc) (e : Env) (H : List AO) (K : Env → List AO → Prop) : Prop :=
  ∀ n li, Region.noSelect l.toArray = true → s.ok l.toArray ds n li false = true → AZ P m N l.toArray ds n li e H K

theorem AT.done (h : K e H) : AT P m N g Hs l ds .done e H K := by
  intro n li _ hc R0 R F A w0 A0 w a G hr hg hi he hp hA hS hG
  simp only [Sc.ok, beq_iff_eq] at hc
  exact wpAnyLast_done hc (hG a w e H R A h hi he (Stp.refl ..)) n
theorem AU.done (h : K e H) : AU P m N l ds .done e H K := by
  intro n li _ hc
  simp only [Sc.ok, beq_iff_eq] at hc
  exact AZ.done hc h
theorem toArr (ho : nthO l i = some o) : l.toArray[i]? = some o := by rw [nthO_eq] at ho; simpa using ho
theorem AT.y (ho : nthO l i = some o) (hw : wantA l.toArray e o true) (hy : AYield P N o e H v) (h : AT P m N g Hs l ds s (put N e o.dst v) H K) : AT P m N g Hs l ds (.y i s) e H K := by
  intro n li hs hc R0 R F A w0 A0 w a G hr hg hi he hp hA hS hG
  cases n with
  | zero => simp [Sc.ok] at hc
  | succ n =>
  simp only [Sc.ok, Bool.and_eq_true] at hc
  obtain ⟨c, hc', hv⟩ := hy R F A w a hi he
  exact wpAnyLast_any (toArr ho) (Region.noSelect_spec hs) (fun _ _ _ h => h) n li a w (Region.free_spec (toArr ho) hc.1.1) (by simpa using hc.1.2) (.inl ⟨wanted_of hw he, hc'⟩) (h n _ hs hc.2 R0 R F A w0 A0 w _ G hr hg hi (he.put o.dst hv) hp hA hS hG)
theorem AT.yn (ho : nthO l i = some o) (hw : unwA l.toArray e o) (h : AT P m N g Hs l ds s (put N e o.dst (.lit undef)) H K) : AT P m N g Hs l ds (.y i s) e H K := by
  intro n li hs hc R0 R F A w0 A0 w a G hr hg hi he hp hA hS hG
  cases n with
  | zero => simp [Sc.ok] at hc
  | succ n =>
  simp only [Sc.ok, Bool.and_eq_true] at hc
  exact wpAnyLast_any (toArr ho) (Region.noSelect_spec hs) (fun _ _ _ h => h) n li a w (Region.free_spec (toArr ho) hc.1.1) (by simpa using hc.1.2) (.inr ⟨hw _ _ _ _ _ _ he, rfl⟩) (h n _ hs hc.2 R0 R F A w0 A0 w _ G hr hg hi (he.put o.dst (by simp [VR])) hp hA hS hG)
/-- A load of what is held. -/
def AHeldG (g : Bool) (P : Program) (N : Nat) (Hs : List AO) (o : Oper) (e : Env) (H : List AO) (v : AV) : Prop :=
  ∀ R0 R F A w a, (g = false → ∀ b, R b → R0 b) → Inv R F A H w → HeldIn Hs H → EnvOk R A H w N e a → ∃ c, (∀ W, HS R0 A Hs w W → (execOp a.eval o).run P W = .ok (.value c) W) ∧ VR R A H w v c
def isObj : AV → Bool
  | .ptr .. | .optr .. => true
  | _ => false
theorem mem_heldG {g : Bool} {R0 R F A w} (hg : g = false → ∀ b, R b → R0 b) (hi : Inv R F A H w) (hp : HeldIn Hs H) {x : AV} {c : Value} (hx : g = true → isObj x = true) (hv : VR R A H w x c) {cs : List AV} (hm : mem Hs x = some cs) :
    ∃ a vs, c = .pointer (some a) ∧ a.spot = none ∧ HB R0 A Hs a.block ∧ VRs R A H w cs vs ∧ ∀ j u, vs[j]? = some u → w.cell? (a.add j) = some u := by
  have hm' : mem H x = some cs := by
    cases x with
    | ptr id off =>
      simp only [mem] at hm ⊢
      cases h : Hs[id]? with
      | none => rw [h] at hm; simp at hm
      | some o =>
        rw [h] at hm
        cases o with
        | bx t cells => rw [hp id _ (by simp) h]; exact hm
        | _ => simp at hm
    | optr id n off =>
      simp only [mem] at hm ⊢
      cases h : Hs[id]? with
      | none => rw [h] at hm; simp at hm
      | some o =>
        rw [h] at hm
        cases o with
        | sl t size mm nn cells => rw [hp id _ (by simp) h]; exact hm
        | dp t size mm nn cells => rw [hp id _ (by simp) h]; exact hm
        | _ => simp at hm
    | rptr cells => exact hm
    | _ => simp [mem] at hm
  obtain ⟨a, vs, h1, h2, h3, h4⟩ := mem_sound hi hv hm'
  refine ⟨a, vs, h1, h2, ?_, h3, h4⟩
  cases x with
  | ptr id off =>
    simp only [mem] at hm
    cases h : Hs[id]? with
    | none => rw [h] at hm; simp at hm
    | some o =>
      rw [h] at hm
      simp only [VR] at hv
      obtain ⟨o', g', k1, k2, k3⟩ := hv
      cases o with
      | bx t cells =>
        rw [hp id _ (by simp) h] at k1; cases k1
        obtain ⟨_, k4⟩ := k3.resolve_left (by simp)
        rw [h1] at k2
        simp only [Value.pointer.injEq, Option.some.injEq] at k2
        exact .inr ⟨id, _, h, by simp, by rw [k4, k2]; rfl⟩
      | _ => simp at hm
  | optr id n off =>
    simp only [mem] at hm
    cases h : Hs[id]? with
    | none => rw [h] at hm; simp at hm
    | some o =>
      rw [h] at hm
      simp only [VR] at hv
      obtain ⟨o', g', k1, k2, k3⟩ := hv
      cases o with
      | sl t size mm nn cells =>
        rw [hp id _ (by simp) h] at k1; cases k1
        simp only at hm
        split at hm
        · rename_i hn
          obtain ⟨l, cap, k4⟩ := (k3.resolve_left (by simp)).2.2 hn
          rw [h1] at k2
          simp only [Value.pointer.injEq, Option.some.injEq] at k2
          exact .inr ⟨id, _, h, by simp, by rw [k4, k2]; rfl⟩
        · cases hm
      | dp t size mm nn cells =>
        rw [hp id _ (by simp) h] at k1; cases k1
        simp only at hm
        split at hm
        · rename_i hn
          obtain ⟨l, cap, k4⟩ := (k3.resolve_left (by simp)).2.2 hn
          rw [h1] at k2
          simp only [Value.pointer.injEq, Option.some.injEq] at k2
          exact .inr ⟨id, _, h, by simp, by rw [k4, k2]; rfl⟩
        · cases hm
      | _ => simp at hm
  | rptr cells =>
    simp only [VR] at hv
    obtain ⟨a', vs', k1, k2, _⟩ := hv
    rw [h1] at k1
    simp only [Value.pointer.injEq, Option.some.injEq] at k1
    subst k1
    cases g with
    | false => exact .inl (hg rfl _ k2)
    | true => exact absurd (hx rfl) (by simp [isObj])
  | _ => simp [mem] at hm
theorem AHeldG.load1 {t : TypeId} {x : Operand} {d : TypeDesc} {cs : List AV} (ho : o.op = .load t x) (hu : P.underlying t = some d) (hd : d.isRow = false)
    (hx : g = true → isObj (ev e x) = true) (hm : mem Hs (ev e x) = some cs) (hc : cs[0]? = some v) : AHeldG g P N Hs o e H v := by
  intro R0 R F A w a hg hi hp he
  obtain ⟨p, vs, h1, h2, hB, h3, h4⟩ := mem_heldG hg hi hp hx (he.ev x) hm
  obtain ⟨c, h5, h6⟩ := h3.get 0 v hc
  have h7 := h4 0 c h5
  have hp0 : p.add 0 = p := by simp [Addr.add]
  rw [hp0] at h7
  refine ⟨c, fun W hW => ?_, h6⟩
  have h8 : W.cell? p = some c := by rw [World.cell?_of_block (hW _ hB)]; exact h7
  have hagg : (isAgg t).run P W = .ok false W := by
    unfold isAgg
    rw [Sem.run_bind, run_underlying hu W]
    cases d <;> simp_all [TypeDesc.isRow]
  unfold execOp
  rw [ho]
  simp only [h1, Instr.loadAt, Instr.sureAddr, loadVar, Sem.run_bind, Sem.run_pure, Result.andThen_ok, hagg, Bool.false_eq_true, if_false, run_load, h8]
theorem AHeldG.loadN {t : TypeId} {x : Operand} {d : TypeDesc} {i : TypeInfo} {cs : List AV} (ho : o.op = .load t x) (hu : P.underlying t = some d) (hd : d.isRow = true)
    (hi : P.info? t = some i) (hx : g = true → isObj (ev e x) = true) (hm : mem Hs (ev e x) = some cs) (hc : i.size ≤ cs.length) : AHeldG g P N Hs o e H (.agg (cs.take i.size)) := by
  intro R0 R F A w a hg hinv hp he
  obtain ⟨p, vs, h1, h2, hB, h3, h4⟩ := mem_heldG hg hinv hp hx (he.ev x) hm
  have hlen := h3.length
  refine ⟨.agg (vs.take i.size).toArray, fun W hW => ?_, by simp only [VR]; exact ⟨_, h3.take _, rfl⟩⟩
  have hp0 : p = ⟨p.block, p.off, none⟩ := by cases p; cases h2; rfl
  have hr : W.rangeAt p.block p.off (vs.take i.size) := by
    intro j v hj
    rw [World.cell?_of_block (w := w) (a := ⟨p.block, p.off + j, none⟩) (hW _ hB), ← Addr.add_mid, ← hp0]
    refine h4 j v ?_
    rw [List.getElem?_take] at hj
    split at hj
    · exact hj
    · cases hj
  have := run_loadAt_mid (P := P) W p.block p.off t (vs.take i.size) d hr hu hd (by rw [hi]; simp; omega)
  unfold execOp
  rw [ho]
  simp only [h1]
  rw [hp0]
  simp only [this, Sem.run_bind, Result.andThen_ok, Sem.run_pure]
theorem HS.toG {R A A0 w0 w W} (hA : ∀ (i : Nat) (o : AO), o ≠ .gone → Hs[i]? = some o → A i = A0 i) (h1 : HS R A0 Hs w0 w) (h2 : HS R A0 Hs w0 W) : HS R A Hs w W := by
  intro b hb
  have hb' : HB R A0 Hs b := by
    rcases hb with hb | ⟨i, o, k1, k2, k3⟩
    · exact .inl hb
    · exact .inr ⟨i, o, k1, k2, by rw [← hA i o k2 k1]; exact k3⟩
  rw [h1 b hb', h2 b hb']
theorem AT.t (ho : nthO l i = some o) (hw : wantA l.toArray e o true) (hy : AHeldG g P N Hs o e H v) (h : AT P m N g Hs l ds s (put N e o.dst v) H K) : AT P m N g Hs l ds (.t i s) e H K := by
  intro n li hs hc R0 R F A w0 A0 w a G hr hg hi he hp hA hS hG
  cases n with
  | zero => simp [Sc.ok] at hc
  | succ n =>
  simp only [Sc.ok, Bool.and_eq_true] at hc
  obtain ⟨c, hc', hv⟩ := hy R0 R F A w a hg hi hp he
  exact wpAnyLast_take (toArr ho) hs hc.1.1.1.1.2 hc.1.1.1.2 hc.1.1.2 hc.1.2 (fun _ _ _ h => h) (.inl ⟨wanted_of hw he, fun W hW => hc' W (HS.toG hA hS hW)⟩) hS (h n _ hs hc.2 R0 R F A w0 A0 w _ G hr hg hi (he.put o.dst hv) hp hA hS hG)
theorem AT.tn (ho : nthO l i = some o) (hw : unwA l.toArray e o) (h : AT P m N g Hs l ds s (put N e o.dst (.lit undef)) H K) : AT P m N g Hs l ds (.t i s) e H K := by
  intro n li hs hc R0 R F A w0 A0 w a G hr hg hi he hp hA hS hG
  cases n with
  | zero => simp [Sc.ok] at hc
  | succ n =>
  simp only [Sc.ok, Bool.and_eq_true] at hc
  exact wpAnyLast_any (toArr ho) (Region.noSelect_spec hs) (fun _ _ _ h => h) n li a w (Region.free_spec (toArr ho) hc.1.1.1.1.2) (by simpa using hc.1.1.1.2) (.inr ⟨hw _ _ _ _ _ _ he, rfl⟩) (h n _ hs hc.2 R0 R F A w0 A0 w _ G hr hg hi (he.put o.dst (by simp [VR])) hp hA hS hG)
theorem AT.onen (ho : nthO l i = some o) (hw : unwA l.toArray e o) (h : AT P m N g Hs l ds s (put N e o.dst (.lit undef)) H K) : AT P m N g Hs l ds (.one i s) e H K := by
  intro n li hs hc R0 R F A w0 A0 w a G hr hg hi he hp hA hS hG
  cases n with
  | zero => simp [Sc.ok] at hc
  | succ n =>
  simp only [Sc.ok, Bool.and_eq_true, beq_iff_eq] at hc
  refine wpAnyLast_all hc.1.1 (by simp) fun j hj => ?_
  simp only [List.mem_singleton] at hj
  subst hj
  unfold wpOp
  simp only [toArr ho]
  rw [if_neg (by rw [hw _ _ _ _ _ _ he]; simp)]
  exact ⟨fun _ _ => hS, h n _ hs hc.2 R0 R F A w0 A0 w _ G hr hg hi (he.put o.dst (by simp [VR])) hp hA hS hG⟩
theorem AT.lastn (ho : nthO l i = some o) (hw : unwA l.toArray e o) (h : AU P m N l ds s (put N e o.dst (.lit undef)) H K) : AT P m N g Hs l ds (.last i s) e H K := by
  intro n li hs hc R0 R F A w0 A0 w a G hr hg hi he hp hA hS hG
  cases n with
  | zero => simp [Sc.ok] at hc
  | succ n =>
  simp only [Sc.ok, Bool.and_eq_true, beq_iff_eq] at hc
  refine wpAnyLast_all hc.1.1.2 (by simp) fun j hj => ?_
  simp only [List.mem_singleton] at hj
  subst hj
  unfold wpOp
  simp only [toArr ho]
  rw [if_neg (by rw [hw _ _ _ _ _ _ he]; simp)]
  exact ⟨fun _ _ => hS, h n _ hs hc.2 R F A w _ G _ hi (he.put o.dst (by simp [VR])) hG⟩
theorem AT.last (ho : nthO l i = some o) (hw : wantA l.toArray e o true) (hy : AOp P m N o e H (fun e' H' => AU P m N l ds s e' H' K)) : AT P m N g Hs l ds (.last i s) e H K := by
  intro n li hs hc R0 R F A w0 A0 w a G hr hg hi he hp hA hS hG
  cases n with
  | zero => simp [Sc.ok] at hc
  | succ n =>
  simp only [Sc.ok, Bool.and_eq_true, beq_iff_eq] at hc
  refine wpAnyLast_all hc.1.1.2 (by simp) fun j hj => ?_
  simp only [List.mem_singleton] at hj
  subst hj
  unfold wpOp
  simp only [toArr ho]
  rw [if_pos (by rw [wanted_of hw he])]
  refine .inl (hy R F A w a _ _ hi he ?_)
  intro a' w' e' H' R' A' h1 h2 h3 h4
  exact ⟨fun hn => absurd (by simpa using hc.1.2) hn, h1 n _ hs hc.2 R' F A' w' a' G _ h2 h3 fun a'' w'' e'' H'' R'' A'' k1 k2 k3 k4 => hG a'' w'' e'' H'' R'' A'' k1 k2 k3 (h4.trans k4)⟩
/-- An operation that leaves what is held (g': there may be more behind it that is only read). -/
def AOpX (g' : Bool) (P : Program) (m N : Nat) (Hs : List AO) (o : Oper) (e : Env) (H : List AO) (K : Env → List AO → Prop) : Prop :=
  ∀ R F A w a (G : Act → World → Prop) (Q : Exit → Act → World → Prop), Inv R F A H w → EnvOk R A H w N e a → HeldIn Hs H →
    (∀ a' w' e' H' R' A', K e' H' → Inv R' F A' H' w' → EnvOk R' A' H' w' N e' a' → Stp m R F A H w R' A' H' w' → (∀ (i : Nat) (o : AO), o ≠ .gone → Hs[i]? = some o → H'[i]? = some o ∧ A' i = A i) → (∀ b, HB R A Hs b → w'.heap[b]? = w.heap[b]?) →
      (g' = false → ∀ b, R' b → R b) → G a' w') → o.wp P a w G Q
theorem AOpS.toX (h : AOpS P m N o e H K) : AOpX false P m N Hs o e H K := by
  intro R F A w a G Q hi he hp hG
  refine h R F A w a G Q hi he fun a' w' e' H' A' h1 h2 h3 h4 h5 h6 => hG a' w' e' H' R A' h1 h2 h3 h4 (fun i o hg k => h5 i o (hp i o hg k)) (fun b hb => h6 b ?_) (fun _ _ h => h)
  rcases hb with hb | ⟨i, o, k1, k2, k3⟩
  · exact .inl hb
  · exact .inr ⟨i, o, hp i o k2 k1, k2, k3⟩
theorem AOpX.upd {id : Nat} {o1 : AO} (hs : AUpd P N o e H id v H') (hH : H[id]? = some o1) (hg : o1 ≠ .gone) (hid : Hs[id]? = none ∨ Hs[id]? = some .gone) (hn : K (put N e o.dst v) H') : AOpX false P m N Hs o e H K := by
  intro R F A w a G Q hi he hp hG
  obtain ⟨c, w', A', h1, h2, h3, h4, h5, h6⟩ := hs R F A w a hi he
  have hne : ∀ (i : Nat) (o : AO), o ≠ .gone → Hs[i]? = some o → i ≠ id := by
    intro i o hg hi' e
    subst e
    rcases hid with hid | hid <;> rw [hid] at hi' <;> cases hi'
    exact hg rfl
  unfold Oper.wp
  rw [h1]
  refine hG _ _ _ _ _ _ hn h2 ((he.stp h4).put o.dst h3) h4.any (fun i o k1 k => h5 i o (hne i o k1 k) (hp i o k1 k)) ?_ (fun _ _ h => h)
  rintro b (hb | ⟨i, p, k1, k2, k3⟩)
  · exact h4.keep b (.inl hb)
  · refine h6 b (OInv.lt k2 (hi.obj i p (hp i p k2 k1)) (.inl k3)) fun e => hne i p k2 k1 ?_
    exact hi.inj i id p o1 b (hp i p k2 k1) hH k2 hg (.inl k3) (.inl e)
/-- A call whose own objects are not held. -/
theorem AOpX.call {l : Bool} {x : Operand} {xs : List Operand} {ts : Array TypeId} {f : FuncId} {fn : Func} {caps avs0 : List AV} {H0 : List AO} {Q0 : AV → List AO → Prop} (ρ : List Nat)
    (ho : o.op = .call { callee := .value x, args := xs.toArray, argTypes := ts }) (hx : ev e x = .fn f caps) (hf : P.funcs[f]? = some fn) (hname : (fn.name == "runtime.NumGoroutine") = false) (hb : fn.body.isSome = true)
    (hc : ACalls P f avs0 H0 Q0) (hnd : ρ.Nodup) (hs : SubH l ρ H ρ H0) (ha : Subs l ρ H (xs.map (ev e) ++ caps) avs0) (hρ : ∀ i, i ∈ ρ → Hs[i]? = none ∨ Hs[i]? = some .gone)
    (hn : ∀ r H', Q0 r H' → (l = false ∨ (norow r = true ∧ H'.all norowO = true)) ∧ K (put N e o.dst (renV (rho ρ H.length) r)) (mergeH ρ H H')) : AOpX (!l) P m N Hs o e H K := by
  intro R F A w a G Q hi he hp hG
  have hvx := he.ev x
  rw [hx] at hvx
  simp only [VR] at hvx
  obtain ⟨vs, hvs, hfx⟩ := hvx
  have hrun : (execOp a.eval o).run P w = .ok (.enter f (xs.map a.eval ++ vs).toArray) w := by
    have := enters hf hname hb (xs.map a.eval ++ vs).toArray w
    unfold execOp
    rw [ho]
    simp only [resolve, hfx, Deferred.ofValue, invoke, Sem.run_bind, Sem.run_pure, Result.andThen_ok, List.map_toArray, Array.empty_append, List.append_toArray, this, List.nil_append]
  have hi0 := hi.part hnd hs
  have hargs : VRs (RL l R ρ A H w) (fun j => A (ρ.getD j 0)) H0 w avs0 (xs.map a.eval ++ vs) :=
    Subs.ok hi (fun b hb => .inl hb) (fun hl i o b h1 h2 h3 h4 => .inr ⟨hl, i, o, h1, h2, h3, h4⟩) hs.hA ha (evs_append he hvs)
  have hcall := hc _ _ _ w _ hi0 hargs
  have hne : ∀ (i : Nat) (o : AO), o ≠ .gone → Hs[i]? = some o → i ∉ ρ := by
    intro i o hg hi' hm
    rcases hρ i hm with hid | hid <;> rw [hid] at hi' <;> cases hi'
    exact hg rfl
  unfold Oper.wp
  rw [hrun, Oper.upon_enter]
  refine hcall.mono ?_
  rintro x w' ⟨v, r, H', R', A', rfl, hq, hi', hv, hst⟩
  obtain ⟨hr1, hr2⟩ := hn r H' hq
  obtain ⟨R2, A2, h1, h2, h3, h4, h5⟩ := part_back hi hnd hs hi' hst hv hr1
  refine hG _ _ _ _ _ _ hr2 h1 ((he.stp h3).put o.dst h2) h3.any (fun i o k1 k => h4 i o (hne i o k1 k) (hp i o k1 k)) ?_ ?_
  · rintro b (hb | ⟨i, p, k1, k2, k3⟩)
    · exact hst.keep b (.inl (.inl hb))
    · cases hl : l with
      | true => exact hst.keep b (.inl (.inr ⟨hl, i, p, hne i p k2 k1, hp i p k2 k1, k2, .inl k3⟩))
      | false => exact hst.keep b (.inr (.inr ⟨hl, i, p, hne i p k2 k1, hp i p k2 k1, k2, .inl k3⟩))
  · intro hl b hb
    have : l = true := by cases l <;> simp_all
    rw [h5 this] at hb
    exact hb
theorem AT.one_ {g' : Bool} {n : Nat} {li : Array Bool} {k : Nat} {ok : Oper} {sk : Sc} {R0 R F : Nat → Prop} {A : Nat → Value} {w0 : World} {A0 : Nat → Value} {w : World} {a : Act} {G : Act → World → Prop} (ho : nthO l k = some ok) (hw : wantA l.toArray e ok true) (hs : Region.noSelect l.toArray = true)
    (hy : AOpX g' P m N Hs ok e H (fun e' H' => AT P m N (g || g') Hs l ds sk e' H' K)) (hck : sk.ok l.toArray ds n (li.setIfInBounds k true) true = true)
    (hr : ∀ b, R0 b → R b) (hg : g = false → ∀ b, R b → R0 b) (hi : Inv R F A H w) (he : EnvOk R A H w N e a) (hp : HeldIn Hs H) (hA : ∀ (i : Nat) (o : AO), o ≠ .gone → Hs[i]? = some o → A i = A0 i) (hS : HS R0 A0 Hs w0 w)
    (hG : ∀ a' w' e' H' R' A', K e' H' → Inv R' F A' H' w' → EnvOk R' A' H' w' N e' a' → Stp m R F A H w R' A' H' w' → G a' w') :
    wpOp P l.toArray (onlyG G) k (fun a' w' => (k ∉ ds → HS R0 A0 Hs w0 w → HS R0 A0 Hs w0 w') ∧ wpAnyLast P .any l.toArray (onlyG G) (HS R0 A0 Hs w0) ds n (li.setIfInBounds k true) a' w') a w := by
  unfold wpOp
  simp only [toArr ho]
  rw [if_pos (by rw [wanted_of hw he])]
  refine .inl (hy R F A w a _ _ hi he hp ?_)
  intro a' w' e' H' R' A' h1 h2 h3 h4 h5 h6 h7
  have hS' : HS R0 A0 Hs w0 w' := fun b hb => by
    rw [h6 b (by rcases hb with hb | ⟨i, o, k1, k2, k3⟩; exact .inl (hr b hb); exact .inr ⟨i, o, k1, k2, by rw [hA i o k2 k1]; exact k3⟩)]
    exact hS b hb
  refine ⟨fun _ _ => hS', h1 n _ hs hck R0 R' F A' w0 A0 w' a' G (fun b hb => h4.rr b (hr b hb)) (fun hgg b hb => ?_) h2 h3 (fun i o q k => (h5 i o q k).1) (fun i o q k => by rw [(h5 i o q k).2]; exact hA i o q k) hS' ?_⟩
  · simp only [Bool.or_eq_false_iff] at hgg
    exact hg hgg.1 b (h7 hgg.2 b hb)
  intro a'' w'' e'' H'' R'' A'' k1 k2 k3 k4
  exact hG a'' w'' e'' H'' R'' A'' k1 k2 k3 (h4.trans k4)
theorem AT.oneX {g' : Bool} (ho : nthO l i = some o) (hw : wantA l.toArray e o true) (hy : AOpX g' P m N Hs o e H (fun e' H' => AT P m N (g || g') Hs l ds s e' H' K)) : AT P m N g Hs l ds (.one i s) e H K := by
  intro n li hs hc R0 R F A w0 A0 w a G hr hg hi he hp hA hS hG
  cases n with
  | zero => simp [Sc.ok] at hc
  | succ n =>
  simp only [Sc.ok, Bool.and_eq_true, beq_iff_eq] at hc
  refine wpAnyLast_all hc.1.1 (by simp) fun j hj => ?_
  simp only [List.mem_singleton] at hj
  subst hj
  exact AT.one_ ho hw hs hy hc.2 hr hg hi he hp hA hS hG
/-- Two operations may come next. -/
theorem AT.two {g1 g2 : Bool} {j : Nat} {o2 : Oper} (ho : nthO l i = some o) (ho2 : nthO l j = some o2) (hw : wantA l.toArray e o true) (hw2 : wantA l.toArray e o2 true)
    (hy : AOpX g1 P m N Hs o e H (fun e' H' => AT P m N (g || g1) Hs l ds s e' H' K)) (hy2 : AOpX g2 P m N Hs o2 e H (fun e' H' => AT P m N (g || g2) Hs l ds s2 e' H' K)) : AT P m N g Hs l ds (.two i s j s2) e H K := by
  intro n li hs hc R0 R F A w0 A0 w a G hr hg hi he hp hA hS hG
  cases n with
  | zero => simp [Sc.ok] at hc
  | succ n =>
  simp only [Sc.ok, Bool.and_eq_true, beq_iff_eq] at hc
  refine wpAnyLast_all hc.1.1.1.1 (by simp) fun k hk => ?_
  rcases List.mem_cons.1 hk with rfl | hk
  · exact AT.one_ ho hw hs hy hc.1.2 hr hg hi he hp hA hS hG
  · simp only [List.mem_singleton] at hk
    subst hk
    exact AT.one_ ho2 hw2 hs hy2 hc.2 hr hg hi he hp hA hS hG
/-- A load, or whatever else may come up, and an operation that writes. -/
theorem AT.mix {g1 : Bool} {j : Nat} {o2 : Oper} (ho : nthO l i = some o) (ho2 : nthO l j = some o2) (hw : wantA l.toArray e o true) (hw2 : wantA l.toArray e o2 true)
    (hy : AOpX g1 P m N Hs o e H (fun e' H' => AT P m N (g || g1) Hs l ds s e' H' K)) (hy2 : AOp P m N o2 e H (fun e' H' => AU P m N l ds s2 e' H' K)) : AT P m N g Hs l ds (.mix i s j s2) e H K := by
  intro n li hs hc R0 R F A w0 A0 w a G hr hg hi he hp hA hS hG
  cases n with
  | zero => simp [Sc.ok] at hc
  | succ n =>
  simp only [Sc.ok, Bool.and_eq_true, beq_iff_eq, Bool.or_eq_true, Bool.true_and] at hc
  obtain ⟨⟨⟨⟨hrd, hdi⟩, hdj⟩, hci⟩, hcj⟩ := hc
  have h1 := AT.one_ (G := G) ho hw hs hy hci hr hg hi he hp hA hS hG
  have h2 : wpOp P l.toArray (onlyG G) j (fun a' w' => (j ∉ ds → HS R0 A0 Hs w0 w → HS R0 A0 Hs w0 w') ∧ wpAnyLast P .any l.toArray (onlyG G) (HS R0 A0 Hs w0) ds n (li.setIfInBounds j true) a' w') a w := by
    unfold wpOp
    simp only [toArr ho2]
    rw [if_pos (by rw [wanted_of hw2 he])]
    refine .inl (hy2 R F A w a _ _ hi he ?_)
    intro a' w' e' H' R' A' h1 h2 h3 h4
    exact ⟨fun hn => absurd (by simpa using hdj) hn, h1 n _ hs hcj R' F A' w' a' G _ h2 h3 fun a'' w'' e'' H'' R'' A'' k1 k2 k3 k4 => hG a'' w'' e'' H'' R'' A'' k1 k2 k3 (h4.trans k4)⟩
  rcases hrd with hrd | hrd <;> refine wpAnyLast_all hrd (by simp) fun k hk => ?_
  · rcases List.mem_cons.1 hk with rfl | hk
    · exact h1
    · simp only [List.mem_singleton] at hk; subst hk; exact h2
  · rcases List.mem_cons.1 hk with rfl | hk
    · exact h2
    · simp only [List.mem_singleton] at hk; subst hk; exact h1
theorem AOpS.stepG (hs : AHeldG false P N H o e H v) (hn : K (put N e o.dst v) H) : AOpS P m N o e H K := by
  intro R F A w a G Q hi he hG
  obtain ⟨c, h1, h2⟩ := hs R R F A w a (fun _ _ h => h) hi (fun _ _ _ h => h) he
  unfold Oper.wp
  rw [h1 w (fun _ _ => rfl)]
  exact hG _ _ _ _ _ hn hi (he.put o.dst h2) (Stp.refl ..) (fun _ _ h => ⟨h, rfl⟩) (fun _ _ => rfl)
/-- A load behind an operation that writes. -/
theorem AU.ld (ho : nthO l i = some o) (hw : wantA l.toArray e o true) (hy : AHeldG false P N H o e H v) (h : AU P m N l ds s (put N e o.dst v) H K) : AU P m N l ds (.ld i s) e H K := by
  intro n li hs hc
  cases n with
  | zero => simp [Sc.ok] at hc
  | succ n =>
  simp only [Sc.ok, Bool.and_eq_true, beq_iff_eq] at hc
  intro R F A w a G S hi he hG
  refine wpAnyLast_all hc.1.2 (by simp) fun j hj => ?_
  simp only [List.mem_singleton] at hj
  subst hj
  unfold wpOp
  simp only [toArr ho]
  rw [if_pos (by rw [wanted_of hw he])]
  obtain ⟨c, h1, h2⟩ := hy R R F A w a (fun _ _ h => h) hi (fun _ _ _ h => h) he
  refine .inl ?_
  unfold Oper.wp
  rw [h1 w (fun _ _ => rfl)]
  exact ⟨fun _ hS => hS, h n _ hs hc.2 R F A w _ G S hi (he.put o.dst h2) hG⟩
theorem AU.y (ho : nthO l i = some o) (hw : wantA l.toArray e o true) (hy : AYield P N o e H v) (h : AU P m N l ds s (put N e o.dst v) H K) : AU P m N l ds (.y i s) e H K := by
  intro n li hs hc
  cases n with
  | zero => simp [Sc.ok] at hc
  | succ n =>
  simp only [Sc.ok, Bool.and_eq_true] at hc
  intro R F A w a G S hi he hG
  obtain ⟨c, hc', hv⟩ := hy R F A w a hi he
  exact wpAnyLast_any (toArr ho) (Region.noSelect_spec hs) (fun _ _ _ h => h) n li a w (Region.free_spec (toArr ho) hc.1.1) (by simpa using hc.1.2) (.inl ⟨wanted_of hw he, hc'⟩) (h n _ hs hc.2 R F A w _ G S hi (he.put o.dst hv) hG)
theorem AU.yn (ho : nthO l i = some o) (hw : unwA l.toArray e o) (h : AU P m N l ds s (put N e o.dst (.lit undef)) H K) : AU P m N l ds (.y i s) e H K := by
  intro n li hs hc
  cases n with
  | zero => simp [Sc.ok] at hc
  | succ n =>
  simp only [Sc.ok, Bool.and_eq_true] at hc
  intro R F A w a G S hi he hG
  exact wpAnyLast_any (toArr ho) (Region.noSelect_spec hs) (fun _ _ _ h => h) n li a w (Region.free_spec (toArr ho) hc.1.1) (by simpa using hc.1.2) (.inr ⟨hw _ _ _ _ _ _ he, rfl⟩) (h n _ hs hc.2 R F A w _ G S hi (he.put o.dst (by simp [VR])) hG)
theorem AU.one (ho : nthO l i = some o) (hw : wantA l.toArray e o true) (hy : AOp P m N o e H (fun e' H' => AU P m N l ds s e' H' K)) : AU P m N l ds (.one i s) e H K := by
  intro n li hs hc
  cases n with
  | zero => simp [Sc.ok] at hc
  | succ n =>
  simp only [Sc.ok, Bool.and_eq_true, beq_iff_eq] at hc
  exact AZ.one (toArr ho) hc.1.1 (by simpa using hc.1.2) hw (fun R F A w a G Q hi he hG => hy R F A w a G Q hi he fun a' w' e' H' R' A' k => hG a' w' e' H' R' A' (k n _ hs hc.2))
theorem AU.onen (ho : nthO l i = some o) (hw : unwA l.toArray e o) (h : AU P m N l ds s (put N e o.dst (.lit undef)) H K) : AU P m N l ds (.one i s) e H K := by
  intro n li hs hc
  cases n with
  | zero => simp [Sc.ok] at hc
  | succ n =>
  simp only [Sc.ok, Bool.and_eq_true, beq_iff_eq] at hc
  intro R F A w a G S hi he hG
  refine wpAnyLast_all hc.1.1 (by simp) fun j hj => ?_
  simp only [List.mem_singleton] at hj
  subst hj
  unfold wpOp
  simp only [toArr ho]
  rw [if_neg (by rw [hw _ _ _ _ _ _ he]; simp)]
  exact ⟨fun hn => absurd (by simpa using hc.1.2) hn, h n _ hs hc.2 R F A w _ G _ hi (he.put o.dst (by simp [VR])) hG⟩
theorem AU.two {j : Nat} {o2 : Oper} (ho : nthO l i = some o) (ho2 : nthO l j = some o2) (hw : wantA l.toArray e o true) (hw2 : wantA l.toArray e o2 true)
    (hy : AOp P m N o e H (fun e' H' => AU P m N l ds s e' H' K)) (hy2 : AOp P m N o2 e H (fun e' H' => AU P m N l ds s2 e' H' K)) : AU P m N l ds (.two i s j s2) e H K := by
  intro n li hs hc
  cases n with
  | zero => simp [Sc.ok] at hc
  | succ n =>
  simp only [Sc.ok, Bool.and_eq_true, beq_iff_eq] at hc
  intro R F A w a G S hi he hG
  have key : ∀ (k : Nat) (ok : Oper) (sk : Sc), nthO l k = some ok → wantA l.toArray e ok true → AOp P m N ok e H (fun e' H' => AU P m N l ds sk e' H' K) → k ∈ ds → sk.ok l.toArray ds n (li.setIfInBounds k true) false = true →
      wpOp P l.toArray (onlyG G) k (fun a' w' => (k ∉ ds → S w → S w') ∧ wpAnyLast P .any l.toArray (onlyG G) S ds n (li.setIfInBounds k true) a' w') a w := by
    intro k ok sk ho hw h hd hck
    unfold wpOp
    simp only [toArr ho]
    rw [if_pos (by rw [wanted_of hw he])]
    refine .inl (h R F A w a _ _ hi he ?_)
    intro a' w' e' H' R' A' h1 h2 h3 h4
    exact ⟨fun hn => absurd hd hn, h1 n _ hs hck R' F A' w' a' G _ h2 h3 fun a'' w'' e'' H'' R'' A'' k1 k2 k3 k4 => hG a'' w'' e'' H'' R'' A'' k1 k2 k3 (h4.trans k4)⟩
  refine wpAnyLast_all hc.1.1.1.1 (by simp) fun k hk => ?_
  rcases List.mem_cons.1 hk with rfl | hk
  · exact key _ o s ho hw hy (by simpa using hc.1.1.1.2) hc.1.2
  · simp only [List.mem_singleton] at hk
    subst hk
    exact key _ o2 s2 ho2 hw2 hy2 (by simpa using hc.1.1.2) hc.2
theorem AWp.regionT {id : Nat} {Q : Exit → Env → List AO → Prop} (bs : List Bool) (ds : List Nat) (s : Sc) (hm : P.follows .mixedOrders = true) (hs : (Region.noSelect l.toArray && s.ok l.toArray ds l.length (Array.replicate l.length false) true) = true)
    (h : AT P m N false (maskB bs H) l ds s e H (fun e' H' => Q .normal e' H')) : AWp P m N (.region id l.toArray true) e H Q := by
  simp only [Bool.and_eq_true] at hs
  intro R F A w a hi he
  have h1 : (Code.region id l.toArray true).wp P (onlyG fun a' w' => Lift m Q R F A H w N .normal a' w') a w := by
    refine wp_region_last (S := HS R A (maskB bs H) { w with drawn := w.drawn + 1 }) (ds := ds) hm ?_
    have hst : Stp H.length R F A H w R A H { w with drawn := w.drawn + 1 } := Stp.heap _ rfl rfl rfl rfl
    simpa using h _ _ hs.1 hs.2 R R F A { w with drawn := w.drawn + 1 } A { w with drawn := w.drawn + 1 } a _ (fun _ h => h) (fun _ _ h => h) (hi.heap rfl rfl rfl rfl) (he.stp hst) (maskB_get bs H) (fun _ _ _ _ => rfl) (fun _ _ => rfl)
      fun a' w' e' H' R' A' k1 k2 k3 k4 => ⟨e', H', R', A', k1, k2, k3, hst.any.trans k4⟩
  refine wp_mono h1 ?_
  intro x a' w' hq
  cases x <;> first | exact hq | exact hq.elim
/-- Orders that lead to the same standing: what follows is shown once. -/
theorem AWp.seqX {c y : Code} {Q : Exit → Env → List AO → Prop} {e1 : Env} {H1 : List AO} (h1 : AWp P m N c e H (fun x e' H' => x = .normal ∧ ((e' = e1 ∧ H' = H1) ∨ IsPart m e' H' e1 H1))) (h2 : AWp P m N y e1 H1 Q) : AWp P m N (.seq c y) e H Q :=
  AWp.seq (h1.conseq fun x e' H' hq => by
    obtain ⟨rfl, ⟨rfl, rfl⟩ | hp⟩ := hq
    · exact h2
    · exact AWp.isPart hp h2)
end

/-! ### the standing seen as another one, in the midst of a region -/
section
variable {R F : Nat → Prop} {A : Nat → Value} {w : World} {P : Program} {m N : Nat} {e e0 : Env} {H H0 : List AO} {a : Act} {K : Env → List AO → Prop} {o : Oper} {ops : Array Oper} {rest : List Oper}
theorem IsPart.to (hp : IsPart m e H e0 H0) (hi : Inv R F A H w) (he : EnvOk R A H w N e a) : ∃ R1 A1, Inv R1 F A1 H0 w ∧ EnvOk R1 A1 H0 w N e0 a ∧ Stp m R F A H w R1 A1 H0 w := by
  obtain ⟨⟨ns, ρ, nd, hsH, base, hE⟩⟩ := hp
  obtain ⟨A1, h1, h2, h3, h4⟩ := Inv.nils ns hi he
  have hi0 := h1.part nd hsH
  have hFL : FL true F ρ A1 (H ++ ns.map nsO) w = F := by funext b; simp [FL]
  rw [hFL] at hi0
  have hA := hsH.hA (A := A1)
  have he1 : EnvOk (RL true R ρ A1 (H ++ ns.map nsO) w) (fun j => A1 (ρ.getD j 0)) H0 w N e0 a := by
    refine ⟨h2.defers, h2.size, fun p hp => ?_⟩
    obtain ⟨x, hx, hsub⟩ := hE.get p hp
    obtain ⟨c, k1, k2⟩ := h2.at_ _ hx
    exact ⟨c, k1, Sub.ok h1 (fun b hb => .inl hb) (fun hl i o b h1 h2 h3 h4 => .inr ⟨hl, i, o, h1, h2, h3, h4⟩) hA hsub k2⟩
  refine ⟨_, _, hi0, he1, ⟨fun b hb => .inl hb, fun _ _ => rfl, ?_, rfl, rfl, rfl, Nat.le_refl _⟩⟩
  intro i o hlt hio
  have hB := (List.getElem?_eq_some_iff.1 hio).1
  rcases base i hlt with hj | hj
  rotate_left
  · exact ⟨.gone, hj, .inl rfl⟩
  obtain ⟨o1, o0, q1, q2, q3⟩ := hsH.get i i hj
  rw [List.getElem?_append_left hB, hio] at q1
  cases q1
  obtain ⟨s1, s2, s3⟩ := q3.same
  refine ⟨o0, q2, .inr ⟨by omega, s2.symm, fun e => ?_⟩⟩
  rw [← h4 i hB]
  simp [List.getD_eq_getElem?_getD, hj]
theorem AList.isPart (hp : IsPart m e H e0 H0) (h : AList P m N ops rest e0 H0 K) : AList P m N ops rest e H K := by
  intro R F A w a G hi he hG
  obtain ⟨R1, A1, h1, h2, h3⟩ := hp.to hi he
  exact h R1 F A1 w a G h1 h2 fun a' w' e' H' R' A' k1 k2 k3 k4 => hG a' w' e' H' R' A' k1 k2 k3 (h3.trans k4)
theorem AOp.isPart (hp : IsPart m e H e0 H0) (h : AOp P m N o e0 H0 K) : AOp P m N o e H K := by
  intro R F A w a G Q hi he hG
  obtain ⟨R1, A1, h1, h2, h3⟩ := hp.to hi he
  exact h R1 F A1 w a G Q h1 h2 fun a' w' e' H' R' A' k1 k2 k3 k4 => hG a' w' e' H' R' A' k1 k2 k3 (h3.trans k4)

/-- An empty row more, that is nil. -/
theorem AOp.nil (t : TypeId) (size : Nat) (h : AOp P m N o e (H ++ [nsO (t, size)]) K) : AOp P m N o e H K := by
  intro R F A w a G Q hi he hG
  obtain ⟨A1, h1, h2, h3, _⟩ := Inv.nils [(t, size)] hi he
  exact h R F A1 w a G Q h1 h2 fun a' w' e' H' R' A' k1 k2 k3 k4 => hG a' w' e' H' R' A' k1 k2 k3 (h3.any.trans k4)
/-- Orders that lead to the same standing: what follows is shown once. -/
theorem AWp.joinX {c : Code} {Q : Exit → Env → List AO → Prop} {e1 : Env} {H1 : List AO} (h1 : AWp P m N c e H (fun x e' H' => x = .normal ∧ ((e' = e1 ∧ H' = H1) ∨ IsPart m e' H' e1 H1))) (h2 : Q .normal e1 H1) : AWp P m N c e H Q := by
  intro R F A w a hi he
  refine wp_mono (h1 R F A w a hi he) ?_
  rintro x a' w' ⟨e', H', R', A', ⟨rfl, hq⟩, hi', he', hs⟩
  rcases hq with ⟨rfl, rfl⟩ | hp
  · exact ⟨_, _, _, _, h2, hi', he', hs⟩
  · obtain ⟨R1, A1, k1, k2, k3⟩ := hp.to hi' he'
    exact ⟨_, _, _, _, h2, k1, k2, hs.trans k3⟩
end
/-! ### what the frame has to keep -/
def pickE (e : Env) : List Nat → Env
  | [] => []
  | t :: ts => match lookS e t with
    | some x => (t, x) :: pickE e ts
    | none => pickE e ts
theorem pickE_mem (e : Env) : ∀ (ts : List Nat) p, p ∈ pickE e ts → p ∈ e
  | [], p, h => by simp [pickE] at h
  | t :: ts, p, h => by
    unfold pickE at h
    split at h
    · rename_i x hx
      rcases List.mem_cons.1 h with rfl | h
      · exact lookS_mem _ _ _ hx
      · exact pickE_mem e ts p h
    · exact pickE_mem e ts p h
theorem pickE_some {e : Env} {t : Nat} {x : AV} {ts : List Nat} (h : lookS e t = some x) : pickE e (t :: ts) = (t, x) :: pickE e ts := by simp [pickE, h]
/-! ### a row of the walk's own that is only read from here on -/
section
variable (id n : Nat) (r : AV)
mutual
def frzV : AV → AV
  | .own i k => if i = id ∧ k = n then r else .own i k
  | .agg cells => .agg (frzVs cells)
  | .tup cells => .tup (frzVs cells)
  | .fn f cells => .fn f (frzVs cells)
  | x => x
def frzVs : List AV → List AV
  | [] => []
  | x :: xs => frzV x :: frzVs xs
end
def frzD : DV → DV
  | .v x => .v (frzV id n r x)
  | .r e s k cells => .r e s k (frzVs id n r cells)
def frzO : AO → AO
  | .sl e s k nn cells => .sl e s k nn (frzVs id n r cells)
  | .bx e cells => .bx e (frzVs id n r cells)
  | .dp e s k nn cells => .dp e s k nn (cells.map (frzD id n r))
  | o => o
def frzH : List AO → Nat → List AO
  | [], _ => []
  | o :: os, k => (if k = id then .gone else frzO id n r o) :: frzH os (k + 1)
def frzE : Env → Env
  | [] => []
  | (t, x) :: e => (t, frzV id n r x) :: frzE e
end
section
variable {R F : Nat → Prop} {A : Nat → Value} {H : List AO} {w : World} {P : Program} {m N : Nat} {e : Env} {a : Act} {K : Env → List AO → Prop} {o : Oper} {ops : Array Oper} {rest : List Oper} {id n : Nat} {r : AV}
theorem frzVs_noids : ∀ xs : List AV, noids xs = true → frzVs id n r xs = xs
  | [], _ => rfl
  | x :: xs, h => by
    simp only [noids, Bool.and_eq_true] at h
    simp only [frzVs, frzVs_noids xs h.2, List.cons.injEq, and_true]
    cases x <;> simp_all [frzV, noid]
    all_goals exact frzVs_noids _ h.1
theorem frzO_same (o : AO) : (frzO id n r o).len = o.len ∧ (frzO id n r o).kind = o.kind ∧ (frzO id n r o = .gone ↔ o = .gone) := by cases o <;> simp [frzO, AO.len, AO.kind]
theorem frzD_isR (x : DV) : (frzD id n r x).isR = x.isR := by cases x <;> rfl
theorem frzO_rAt (o : AO) (i : Nat) : (frzO id n r o).rAt i = o.rAt i := by
  cases o with
  | dp e s k nn cells =>
    simp only [frzO, AO.rAt, List.getElem?_map]
    cases cells[i]? with
    | none => rfl
    | some d => simp [frzD_isR]
  | _ => rfl
theorem frzO_foot {o : AO} {w : World} {c : Value} {b : Nat} : foot w c (frzO id n r o) b ↔ foot w c o b := by
  unfold foot
  simp only [frzO_rAt]
theorem Apart.frz {c : Value} {cells : List DV} {vs : List Value} (h : Apart c cells vs) : Apart c (cells.map (frzD id n r)) vs := by
  have back : ∀ (i : Nat) (x : DV), (cells.map (frzD id n r))[i]? = some x → x.isR = true → ∃ y, cells[i]? = some y ∧ y.isR = true := by
    intro i x h1 h2
    rw [List.getElem?_map] at h1
    obtain ⟨y, h3, h4⟩ := Option.map_eq_some_iff.1 h1
    exact ⟨y, h3, by rw [← frzD_isR, h4]; exact h2⟩
  refine ⟨fun i j x y u v b h1 h2 h3 h4 h5 h6 h7 h8 => ?_, fun i x u b h1 h2 h3 h4 => ?_⟩
  · obtain ⟨x', k1, k2⟩ := back i x h1 h3
    obtain ⟨y', k3, k4⟩ := back j y h2 h4
    exact h.1 i j x' y' u v b k1 k3 k2 k4 h5 h6 h7 h8
  · obtain ⟨x', k1, k2⟩ := back i x h1 h2
    exact h.2 i x' u b k1 k2 h3 h4
theorem frzH_get : ∀ (H : List AO) (k i : Nat), (frzH id n r H k)[i]? = (H[i]?).map fun o => if k + i = id then .gone else frzO id n r o
  | [], k, i => by simp [frzH]
  | o :: os, k, 0 => by simp [frzH]
  | o :: os, k, i + 1 => by
    simp only [frzH, List.getElem?_cons_succ, frzH_get os (k + 1) i]
    congr 1
    funext o
    rw [show k + 1 + i = k + (i + 1) by omega]
theorem frz_ext : Ext H.length A H A (frzH id n r H 0) := by
  intro i o _ hi
  refine ⟨if 0 + i = id then .gone else frzO id n r o, by rw [frzH_get, hi]; rfl, ?_⟩
  split
  · exact .inl rfl
  · obtain ⟨h1, h2, _⟩ := frzO_same (id := id) (n := n) (r := r) o
    exact .inr ⟨by omega, h2.symm, fun _ => rfl⟩
mutual
theorem VR.frz {R' : Nat → Prop} {H' : List AO} (hm : ∀ x c, VR R A H w x c → VR R' A H' w x c) (hrow : ∀ c, VR R A H w (.own id n) c → VR R' A H' w r c) : ∀ (x : AV) (c : Value), VR R A H w x c → VR R' A H' w (frzV id n r x) c
  | .own i k, c, h => by
    unfold frzV
    split
    · rename_i hk; obtain ⟨rfl, rfl⟩ := hk; exact hrow c h
    · exact hm _ c h
  | .agg cells, c, h => by
    simp only [frzV, VR] at h ⊢
    obtain ⟨vs, h1, h2⟩ := h
    exact ⟨vs, VRs.frz hm hrow cells vs h1, h2⟩
  | .tup cells, c, h => by
    simp only [frzV, VR] at h ⊢
    obtain ⟨vs, h1, h2⟩ := h
    exact ⟨vs, VRs.frz hm hrow cells vs h1, h2⟩
  | .fn f cells, c, h => by
    simp only [frzV, VR] at h ⊢
    obtain ⟨vs, h1, h2⟩ := h
    exact ⟨vs, VRs.frz hm hrow cells vs h1, h2⟩
  | .any, c, h => hm _ c h
  | .lit v, c, h => hm _ c h
  | .row s k nn cells, c, h => hm _ c h
  | .rptr cells, c, h => hm _ c h
  | .optr i k off, c, h => hm _ c h
  | .ptr i off, c, h => hm _ c h
theorem VRs.frz {R' : Nat → Prop} {H' : List AO} (hm : ∀ x c, VR R A H w x c → VR R' A H' w x c) (hrow : ∀ c, VR R A H w (.own id n) c → VR R' A H' w r c) : ∀ (xs : List AV) (vs : List Value), VRs R A H w xs vs → VRs R' A H' w (frzVs id n r xs) vs
  | [], [], _ => by simp [frzVs, VRs]
  | x :: xs, v :: vs, h => by
    simp only [VRs] at h
    simp only [frzVs, VRs]
    exact ⟨VR.frz hm hrow x v h.1, VRs.frz hm hrow xs vs h.2⟩
  | [], _ :: _, h => by simp [VRs] at h
  | _ :: _, [], h => by simp [VRs] at h
end
theorem DRs.frz {R' : Nat → Prop} {H' : List AO} (hV : ∀ (x : AV) (c : Value), VR R A H w x c → VR R' A H' w (frzV id n r x) c) (hVs : ∀ (xs : List AV) (vs : List Value), VRs R A H w xs vs → VRs R' A H' w (frzVs id n r xs) vs) :
    ∀ {xs : List DV} {vs : List Value}, DRs R A H w xs vs → DRs R' A H' w (xs.map (frzD id n r)) vs
  | [], [], _ => by simp [DRs]
  | x :: xs, v :: vs, h => by
    simp only [DRs] at h
    simp only [List.map_cons, DRs]
    refine ⟨?_, DRs.frz hV hVs h.2⟩
    cases x with
    | v x => exact hV x v h.1
    | r e s k cs => obtain ⟨us, k1, k2⟩ := h.1; exact ⟨us, k1, hVs _ _ k2⟩
  | [], _ :: _, h => by simp [DRs] at h
  | _ :: _, [], h => by simp [DRs] at h
theorem Inv.frz {et : TypeId} {size : Nat} {nn : Bool} {cells : List AV} (hH : H[id]? = some (.sl et size n nn cells)) (hi : Inv R F A H w) (he : EnvOk R A H w N e a) :
    ∃ R', Inv R' F A (frzH id n (.row size n false (frzVs id n .any cells)) H 0) w ∧ EnvOk R' A (frzH id n (.row size n false (frzVs id n .any cells)) H 0) w N (frzE id n (.row size n false (frzVs id n .any cells)) e) a ∧
      Stp H.length R F A H w R' A (frzH id n (.row size n false (frzVs id n .any cells)) H 0) w := by
  let R' : Nat → Prop := fun b => R b ∨ blk (A id) = some b
  have hr : ∀ b, R b → R' b := fun b h => .inl h
  have hany : ∀ x c, VR R A H w x c → VR R' A (frzH id n (.row size n false (frzVs id n .any cells)) H 0) w x c := fun x c => VR.mono hr (fun _ _ => rfl) frz_ext x c
  have hrow : ∀ c, VR R A H w (.own id n) c → VR R' A (frzH id n (.row size n false (frzVs id n .any cells)) H 0) w (.row size n false (frzVs id n .any cells)) c := by
    intro c h
    simp only [VR] at h ⊢
    obtain ⟨o, h1, h2, h3⟩ := h
    rw [hH] at h1
    cases h1
    have h4 := (h3.resolve_left (by simp)).2.2 rfl
    obtain ⟨vs, h5, h6, h7⟩ := hi.obj id _ hH
    have h8 : VRs R' A (frzH id n (.row size n false (frzVs id n .any cells)) H 0) w (frzVs id n .any cells) vs := VRs.frz hany (fun _ _ => by simp [VR]) _ _ h6
    rw [← h4] at h5 h7
    rcases h5.2 with ⟨h9, h10⟩ | ⟨g, cap, cur, rfl, hb, hg, hnc, _⟩
    · have hv0 : vs = [] := List.eq_nil_of_length_eq_zero (by have := h5.1; simpa [h10] using this)
      subst hv0
      have h0 : frzVs id n .any cells = [] := List.eq_nil_of_length_eq_zero (by simpa using h8.length)
      exact .inl ⟨h9, h10, h0, trivial⟩
    · refine .inr ⟨_, cap, vs, rfl, fun _ => ⟨.inr ?_, rfl⟩, hnc, h5.1, h8, cells_slice (n := n) (m := 0) h5⟩
      rw [← h4]; rfl
  have hV := VR.frz (id := id) (n := n) (A := A) (H := H) (w := w) (r := .row size n false (frzVs id n .any cells)) hany hrow
  have hVs := VRs.frz (id := id) (n := n) (A := A) (H := H) (w := w) (r := .row size n false (frzVs id n .any cells)) hany hrow
  have hst : Stp H.length R F A H w R' A (frzH id n (.row size n false (frzVs id n .any cells)) H 0) w := ⟨hr, fun _ _ => rfl, frz_ext, rfl, rfl, rfl, Nat.le_refl _⟩
  have hget : ∀ i o, (frzH id n (.row size n false (frzVs id n .any cells)) H 0)[i]? = some o → (i = id ∧ o = .gone) ∨ (i ≠ id ∧ ∃ o0, H[i]? = some o0 ∧ o = frzO id n (.row size n false (frzVs id n .any cells)) o0) := by
    intro i o ho
    rw [frzH_get, Nat.zero_add] at ho
    obtain ⟨o0, h1, h2⟩ := Option.map_eq_some_iff.1 ho
    by_cases hid : i = id
    · rw [if_pos hid] at h2; exact .inl ⟨hid, h2.symm⟩
    · rw [if_neg hid] at h2; exact .inr ⟨hid, o0, h1, h2.symm⟩
  have hng : ∀ o0, frzO id n (.row size n false (frzVs id n .any cells)) o0 ≠ .gone → o0 ≠ .gone := fun o0 h k => h ((frzO_same o0).2.2.2 k)
  refine ⟨R', ⟨?_, ?_, hi.flt, ?_, ?_, ?_, hi.tab.mono hr (fun _ _ => rfl)⟩, ?_, hst⟩
  · rintro b (h | h)
    · exact hi.rf b h
    · exact (hi.own id _ b hH (by simp) (.inl h)).2
  · rintro b (h | h)
    · exact hi.rlt b h
    · exact OInv.lt (by simp) (hi.obj id _ hH) (.inl h)
  · intro i o b ho hg hb
    rcases hget i o ho with ⟨_, rfl⟩ | ⟨hne, o0, h1, rfl⟩
    · exact absurd rfl hg
    · have hb := frzO_foot.1 hb
      have := hi.own i o0 b h1 (hng o0 hg) hb
      refine ⟨?_, this.2⟩
      rintro (h | h)
      · exact this.1 h
      · exact hne (hi.inj i id o0 _ b h1 hH (hng o0 hg) (by simp) hb (.inl h))
  · intro i j o p b ho hp hgo hgp hb hc
    rcases hget i o ho with ⟨_, rfl⟩ | ⟨_, o0, h1, rfl⟩
    · exact absurd rfl hgo
    rcases hget j p hp with ⟨_, rfl⟩ | ⟨_, p0, h2, rfl⟩
    · exact absurd rfl hgp
    exact hi.inj i j o0 p0 b h1 h2 (hng o0 hgo) (hng p0 hgp) (frzO_foot.1 hb) (frzO_foot.1 hc)
  · intro i o ho
    rcases hget i o ho with ⟨_, rfl⟩ | ⟨_, o0, h1, rfl⟩
    · trivial
    have hob := hi.obj i o0 h1
    cases o0 with
    | gone => trivial
    | nil e s => exact hob
    | sl e2 size2 n2 nn2 cells2 => obtain ⟨vs, q1, q2, q3⟩ := hob; exact ⟨vs, q1, hVs _ _ q2, q3⟩
    | bx e2 cells2 => obtain ⟨g, vs, q1, q2, q3⟩ := hob; exact ⟨g, vs, q1, q2, hVs _ _ q3⟩
    | dp e2 size2 n2 nn2 cells2 =>
      obtain ⟨vs, q1, q2, q3, q4⟩ := hob
      exact ⟨vs, q1, DRs.frz hV hVs q2, q3, q4.frz⟩
  · refine ⟨he.defers, he.size, ?_⟩
    intro p hp
    have : ∀ (e : Env), p ∈ frzE id n (.row size n false (frzVs id n .any cells)) e → ∃ x, (p.1, x) ∈ e ∧ p.2 = frzV id n (.row size n false (frzVs id n .any cells)) x := by
      intro e
      induction e with
      | nil => intro h; simp [frzE] at h
      | cons q e ih =>
        obtain ⟨t, x⟩ := q
        intro h
        simp only [frzE] at h
        rcases List.mem_cons.1 h with rfl | h
        · exact ⟨x, by simp, rfl⟩
        · obtain ⟨y, h1, h2⟩ := ih h
          exact ⟨y, List.mem_cons_of_mem _ h1, h2⟩
    obtain ⟨x, h1, h2⟩ := this e hp
    obtain ⟨c, k1, k2⟩ := he.at_ _ h1
    exact ⟨c, k1, by rw [h2]; exact hV x c k2⟩
theorem AOp.frz {et : TypeId} {size : Nat} {nn : Bool} {cells : List AV} (id : Nat) {n : Nat} (hH : H[id]? = some (.sl et size n nn cells))
    (h : AOp P m N o (frzE id n (.row size n false (frzVs id n .any cells)) e) (frzH id n (.row size n false (frzVs id n .any cells)) H 0) K) : AOp P m N o e H K := by
  intro R F A w a G Q hi he hG
  obtain ⟨R', h1, h2, h3⟩ := Inv.frz hH hi he
  exact h R' F A w a G Q h1 h2 fun a' w' e' H' R'' A' k1 k2 k3 k4 => hG a' w' e' H' R'' A' k1 k2 k3 (h3.any.trans k4)
theorem AWp.frz {Q : Exit → Env → List AO → Prop} {c : Code} {et : TypeId} {size : Nat} {nn : Bool} {cells : List AV} (id : Nat) {n : Nat} (hH : H[id]? = some (.sl et size n nn cells))
    (h : AWp P m N c (frzE id n (.row size n false (frzVs id n .any cells)) e) (frzH id n (.row size n false (frzVs id n .any cells)) H 0) Q) : AWp P m N c e H Q := by
  intro R F A w a hi he
  obtain ⟨R', h1, h2, h3⟩ := Inv.frz hH hi he
  exact wp_mono (h R' F A w a h1 h2) fun _ _ _ => Lift.trans h3.any
theorem AList.frz {et : TypeId} {size : Nat} {nn : Bool} {cells : List AV} (id : Nat) {n : Nat} (hH : H[id]? = some (.sl et size n nn cells))
    (h : AList P m N ops rest (frzE id n (.row size n false (frzVs id n .any cells)) e) (frzH id n (.row size n false (frzVs id n .any cells)) H 0) K) : AList P m N ops rest e H K := by
  intro R F A w a G hi he hG
  obtain ⟨R', h1, h2, h3⟩ := Inv.frz hH hi he
  exact h R' F A w a G h1 h2 fun a' w' e' H' R'' A' k1 k2 k3 k4 => hG a' w' e' H' R'' A' k1 k2 k3 (h3.any.trans k4)
end
/-- A row that was made where the order is drawn, given up. -/
theorem AOpX.frz {g' : Bool} {R : Nat → Prop} {P : Program} {m N : Nat} {Hs H : List AO} {o : Oper} {e : Env} {K : Env → List AO → Prop} {et : TypeId} {size : Nat} {nn : Bool} {cells : List AV} (id : Nat) {n : Nat} (hH : H[id]? = some (.sl et size n nn cells)) (hid : Hs[id]? = none ∨ Hs[id]? = some .gone)
    (hq : Hs.map (frzO id n (.row size n false (frzVs id n .any cells))) = Hs)
    (h : AOpX g' P m N Hs o (frzE id n (.row size n false (frzVs id n .any cells)) e) (frzH id n (.row size n false (frzVs id n .any cells)) H 0) K) : AOpX true P m N Hs o e H K := by
  intro R F A w a G Q hi he hp hG
  obtain ⟨R', h1, h2, h3⟩ := Inv.frz hH hi he
  have hne : ∀ (i : Nat) (o : AO), o ≠ .gone → Hs[i]? = some o → i ≠ id := by
    intro i o hg hi' e
    subst e
    rcases hid with hid | hid <;> rw [hid] at hi' <;> cases hi'
    exact hg rfl
  have hp' : HeldIn Hs (frzH id n (.row size n false (frzVs id n .any cells)) H 0) := by
    intro i o hg hio
    rw [frzH_get, Nat.zero_add, hp i o hg hio]
    simp only [Option.map_some, if_neg (hne i o hg hio), Option.some.injEq]
    have := congrArg (fun L => L[i]?) hq
    simp only [List.getElem?_map, hio, Option.map_some, Option.some.injEq] at this
    exact this
  refine h R' F A w a G Q h1 h2 hp' fun a' w' e' H' R'' A' k1 k2 k3 k4 k5 k6 k7 => hG a' w' e' H' R'' A' k1 k2 k3 (h3.any.trans k4) k5 (fun b hb => k6 b ?_) (fun hl => by cases hl)
  rcases hb with hb | hb
  · exact .inl (h3.rr b hb)
  · exact .inr hb
/-! ### nil, as an empty row of the walk's own -/
section
variable {R F : Nat → Prop} {A : Nat → Value} {H Hs : List AO} {w : World} {P : Program} {m N : Nat} {e : Env} {a : Act} {K : Env → List AO → Prop} {o : Oper} {ops : Array Oper} {rest : List Oper} {l : List Oper} {ds : List Nat} {s : Sc}
theorem Inv.asOwn (t : Nat) (et : TypeId) (size : Nat) (h : look e t = .lit (.slice none 0 0)) (hi : Inv R F A H w) (he : EnvOk R A H w N e a) :
    ∃ A', Inv R F A' (H ++ [.sl et size 0 false []]) w ∧ EnvOk R A' (H ++ [.sl et size 0 false []]) w N (put N e (some t) (.own H.length 0)) a ∧ Stp H.length R F A H w R A' (H ++ [.sl et size 0 false []]) w ∧ (∀ (i : Nat) (o : AO), H[i]? = some o → A' i = A i) := by
  have h1 := Inv.push (w' := w) (c := .slice none 0 0) (o := .sl et size 0 false []) hi (by simp) (Nat.le_refl _) (fun _ _ => rfl) rfl rfl rfl (fun b hb => by simp [blk] at hb)
    (fun _ => ⟨[], World.ownsRow_nil _ _ _ _, by simp [VRs], by simp⟩)
  refine ⟨_, h1.1, ?_, h1.2, fun i o hio => if_neg (by have := (List.getElem?_eq_some_iff.1 hio).1; omega)⟩
  have he' := he.stp h1.2
  have hm : (t, AV.lit (.slice none 0 0)) ∈ e := by
    rcases look_mem e t with k | k
    · rw [h] at k; cases k
    · rw [h] at k; exact k
  obtain ⟨c, k1, k2⟩ := he'.at_ _ hm
  simp only [VR] at k2
  subst k2
  have hlt : t < N := by rw [← he.size]; exact (Array.getElem?_eq_some_iff.1 k1).1
  refine ⟨he'.defers, he'.size, ?_⟩
  intro p hp
  simp only [put, if_pos hlt] at hp
  rcases List.mem_cons.1 hp with rfl | hp
  · refine ⟨_, k1, ?_⟩
    simp only [VR]
    exact ⟨.sl et size 0 false [], by simp, ⟨_, _, _, rfl⟩, .inr ⟨rfl, Nat.le_refl _, fun _ => by simp⟩⟩
  · exact he'.at_ p (rem_mem _ _ _ hp).1
theorem AList.asOwn (t : Nat) (et : TypeId) (size : Nat) (h : look e t = .lit (.slice none 0 0)) (hn : AList P m N ops rest (put N e (some t) (.own H.length 0)) (H ++ [.sl et size 0 false []]) K) : AList P m N ops rest e H K := by
  intro R F A w a G hi he hG
  obtain ⟨A', h1, h2, h3, _⟩ := Inv.asOwn t et size h hi he
  exact hn R F A' w a G h1 h2 fun a' w' e' H' R'' A' k1 k2 k3 k4 => hG a' w' e' H' R'' A' k1 k2 k3 (h3.any.trans k4)
theorem AT.asOwn {g : Bool} (t : Nat) (et : TypeId) (size : Nat) (h : look e t = .lit (.slice none 0 0)) (hn : AT P m N g Hs l ds s (put N e (some t) (.own H.length 0)) (H ++ [.sl et size 0 false []]) K) : AT P m N g Hs l ds s e H K := by
  intro n li hs hc R0 R F A w0 A0 w a G hr hg hi he hp hA hS hG
  obtain ⟨A', h1, h2, h3, h4⟩ := Inv.asOwn t et size h hi he
  refine hn n li hs hc R0 R F A' w0 A0 w a G hr hg h1 h2 (fun i o q k => by rw [List.getElem?_append_left (List.getElem?_eq_some_iff.1 (hp i o q k)).1]; exact hp i o q k) (fun i o q k => by rw [h4 i o (hp i o q k)]; exact hA i o q k) hS ?_
  exact fun a' w' e' H' R'' A' k1 k2 k3 k4 => hG a' w' e' H' R'' A' k1 k2 k3 (h3.any.trans k4)
theorem AU.asOwn (t : Nat) (et : TypeId) (size : Nat) (h : look e t = .lit (.slice none 0 0)) (hn : AU P m N l ds s (put N e (some t) (.own H.length 0)) (H ++ [.sl et size 0 false []]) K) : AU P m N l ds s e H K := by
  intro n li hs hc R F A w a G S hi he hG
  obtain ⟨A', h1, h2, h3, h4⟩ := Inv.asOwn t et size h hi he
  exact hn n li hs hc R F A' w a G S h1 h2 fun a' w' e' H' R'' A' k1 k2 k3 k4 => hG a' w' e' H' R'' A' k1 k2 k3 (h3.any.trans k4)
end
/-! ### cuts -/
section
variable {R F : Nat → Prop} {A : Nat → Value} {H : List AO} {w : World} {P : Program} {N : Nat} {e : Env} {o : Oper}
/-- What a bound is: none, or a number. -/
def Bnd (e : Env) (x : Option Operand) (d : Nat) (q : Nat) : Prop := (x = none ∧ q = d) ∨ ∃ (y : Operand) (k : IntKind) (i : Int), x = some y ∧ ev e y = .lit (.int k i) ∧ 0 ≤ i ∧ q = i.toNat
theorem Bnd.bounds {isS : Bool} {lo hi : Option Operand} {n c l h : Nat} {a : Act} (hl : Bnd e lo 0 l) (hh : Bnd e hi n h) (he : EnvOk R A H w N e a) (h1 : l ≤ h) (h2 : h ≤ c) (W : World) :
    (Instr.sliceBounds isS n c (lo.map a.eval) (hi.map a.eval) none).run P W = .ok (l, h, c) W := by
  rcases hl with ⟨rfl, rfl⟩ | ⟨z, k, i, rfl, k2, k3, rfl⟩ <;> rcases hh with ⟨rfl, rfl⟩ | ⟨z2, k2', i2, rfl, r1, r2, rfl⟩
  · simp [Instr.sliceBounds]
  · have hv := he.ev z2
    rw [r1] at hv
    simp only [VR] at hv
    have e2 := fun code => run_sliceBound (P := P) W k2' i2 c code r2 (by omega)
    simp [Instr.sliceBounds, hv, e2]
  · have hv := he.ev z
    rw [k2] at hv
    simp only [VR] at hv
    have e2 := fun code => run_sliceBound (P := P) W k i h code k3 (by omega)
    simp [Instr.sliceBounds, hv, e2]
  · have hv := he.ev z
    rw [k2] at hv
    have hv2 := he.ev z2
    rw [r1] at hv2
    simp only [VR] at hv hv2
    have e2 := fun code => run_sliceBound (P := P) W k2' i2 c code r2 (by omega)
    have e3 := fun code => run_sliceBound (P := P) W k i i2.toNat code k3 (by omega)
    simp [Instr.sliceBounds, hv, hv2, e2, e3]
theorem run_sliceRow {t el : TypeId} {i : TypeInfo} {lo hi : Option Operand} {l h n c : Nat} {ad : Option Addr} {a : Act} (hu : P.underlying t = some (.slice el)) (hinf : P.info? el = some i) (he : EnvOk R A H w N e a)
    (hl : Bnd e lo 0 l) (hh : Bnd e hi n h) (h1 : l ≤ h) (h2 : h ≤ n) (h3 : n ≤ c) (W : World) :
    (Instr.sliceAt t (.slice ad n c) (lo.map a.eval) (hi.map a.eval) none).run P W = .ok (.slice (if c = l then ad else ad.map (·.add (l * i.size))) (h - l) (c - l)) W := by
  have e1 := Bnd.bounds (P := P) (isS := true) (c := c) hl hh he h1 (by omega) W
  unfold Instr.sliceAt
  simp only [Sem.run_bind, run_underlying hu, Result.andThen_ok]
  unfold Instr.slice
  simp only [Sem.run_bind, run_underlying hu, Result.andThen_ok, e1, sizeOf, typeInfo, run_program, hinf, Sem.run_pure]
theorem AYield.cutRow {t el : TypeId} {x : Operand} {i : TypeInfo} {lo hi : Option Operand} {l h n size : Nat} {nn : Bool} {cells : List AV} (ho : o.op = .slice t x lo hi none) (hu : P.underlying t = some (.slice el)) (hinf : P.info? el = some i)
    (hsz : i.size = size) (hx : ev e x = .row size n nn cells) (hl : Bnd e lo 0 l) (hh : Bnd e hi n h) (h1 : l ≤ h) (h2 : h ≤ n) : AYield P N o e H (.row size (h - l) nn ((cells.take (h * size)).drop (l * size))) := by
  subst hsz
  intro R F A w a hinv he
  have hvx := he.ev x
  rw [hx] at hvx
  simp only [VR] at hvx
  have key : ∀ (ad : Option Addr) (c : Nat), a.eval x = .slice ad n c → n ≤ c → ∀ W, (execOp a.eval o).run P W = .ok (.value (.slice (if c = l then ad else ad.map (·.add (l * i.size))) (h - l) (c - l))) W := by
    intro ad c hx hc W
    unfold execOp
    rw [ho]
    have := run_sliceRow (ad := ad) (c := c) hu hinf he hl hh h1 h2 hc W
    simp only [Option.map_none, hx, Sem.run_bind, this, Result.andThen_ok, Sem.run_pure]
  rcases hvx with ⟨k1, k2, k3, k4⟩ | ⟨ad, c, vs, k1, k2, k3, k4, k5, k6⟩
  · have hl0 : l = 0 := by omega
    have hh0 : h = 0 := by omega
    refine ⟨_, key none 0 (by rw [k1, k2]) (by omega), ?_⟩
    subst hl0 hh0
    simp only [VR]
    exact .inl (by simp [k3, k4])
  · refine ⟨_, key (some ad) c k1 k3, ?_⟩
    simp only [VR]
    have hvl : ((vs.take (h * i.size)).drop (l * i.size)).length = (h - l) * i.size := by
      simp only [List.length_drop, List.length_take, k4]
      have : h * i.size ≤ n * i.size := Nat.mul_le_mul_right _ h2
      rw [Nat.min_eq_left this, Nat.sub_mul]
    have hV := (k5.take (h * i.size)).drop (l * i.size)
    by_cases hc : c = l
    · rw [if_pos hc]
      have hz : h - l = 0 := by omega
      refine .inr ⟨ad, c - l, (vs.take (h * i.size)).drop (l * i.size), rfl, fun z => by omega, by omega, hvl, hV, ?_⟩
      intro j u hu
      have := List.eq_nil_of_length_eq_zero (by rw [hvl, hz, Nat.zero_mul] : ((vs.take (h * i.size)).drop (l * i.size)).length = 0)
      rw [this] at hu
      cases hu
    · rw [if_neg hc]
      refine .inr ⟨ad.add (l * i.size), c - l, (vs.take (h * i.size)).drop (l * i.size), rfl, fun z => ?_, by omega, hvl, hV, ?_⟩
      · obtain ⟨q1, q2⟩ := k2 (by omega)
        have hp : ad = ⟨ad.block, ad.off, none⟩ := addr_eta q2
        rw [hp, Addr.add_mid]
        exact ⟨q1, rfl⟩
      · intro j u hu
        have hj : j < (h - l) * i.size := by have := (List.getElem?_eq_some_iff.1 hu).1; omega
        have hn0 : 0 < n := by
          rcases Nat.eq_zero_or_pos n with h0 | h0
          · have : h - l = 0 := by omega
            rw [this, Nat.zero_mul] at hj
            omega
          · exact h0
        obtain ⟨q1, q2⟩ := k2 hn0
        have hp : ad = ⟨ad.block, ad.off, none⟩ := addr_eta q2
        rw [List.getElem?_drop, List.getElem?_take] at hu
        split at hu
        · have := k6 _ u hu
          rw [hp, Addr.add_mid] at this
          rw [hp, Addr.add_mid, Addr.add_mid, Nat.add_assoc]
          exact this
        · cases hu
theorem AYield.cutStr {t : TypeId} {x : Operand} {lo hi : Option Operand} {l h : Nat} {bs : ByteArray} (ho : o.op = .slice t x lo hi none) (hu : P.underlying t = some .string)
    (hx : ev e x = .lit (.string bs)) (hl : Bnd e lo 0 l) (hh : Bnd e hi bs.size h) (h1 : l ≤ h) (h2 : h ≤ bs.size) : AYield P N o e H (.lit (.string (bs.extract l h))) := by
  intro R F A w a hinv he
  have hvx := he.ev x
  rw [hx] at hvx
  simp only [VR] at hvx
  refine ⟨.string (bs.extract l h), ?_, by simp [VR]⟩
  intro W
  have e1 := Bnd.bounds (P := P) (isS := false) (c := bs.size) hl hh he h1 h2 W
  unfold execOp
  rw [ho]
  simp only [Option.map_none, hvx]
  unfold Instr.sliceAt
  simp only [Sem.run_bind, run_underlying hu, Result.andThen_ok]
  unfold Instr.slice
  simp only [Sem.run_bind, run_underlying hu, Result.andThen_ok, e1, Option.isSome_none, Bool.false_eq_true, if_false, Sem.run_pure]
end
/-! ### a given function that hands back a fresh row -/
theorem CallPost.fresh {R F : Nat → Prop} {A : Nat → Value} {w w' : World} {x : Ending} {t : TypeId} {size n : Nat} {vs : List Value} {cells : List AV} {v' : Value} (hi : Inv R F A [] w) (he : x = .returned v') (ho : w'.ownsRow w.heap.size t size v' n vs) (hb : Below w.heap.size w w')
    (hv : ∀ (R : Nat → Prop) (A : Nat → Value) (H : List AO) (w : World), VRs R A H w cells vs) : CallPost (fun v H' => v = .own 0 n ∧ H' = [.sl t size n false cells]) R F A [] w x w' := by
  have hnew : ∀ b, blk v' = some b → w.heap.size ≤ b := by
    intro b hbk
    rcases ho.2 with ⟨h, _⟩ | ⟨g, cap, cur, h, hg, _⟩
    · rw [h] at hbk; simp [blk] at hbk
    · rw [h] at hbk; simp only [blk, Option.some.injEq] at hbk; omega
  have ho0 : w'.ownsRow 0 t size v' n vs := by
    refine ⟨ho.1, ?_⟩
    rcases ho.2 with h | ⟨g, cap, cur, h, _, h2⟩
    · exact .inl h
    · exact .inr ⟨g, cap, cur, h, Nat.zero_le _, h2⟩
  obtain ⟨b1, b2, b3, b4, b5⟩ := hb
  have hpush := Inv.push (w' := w') (c := v') (o := .sl t size n false cells) hi (by simp) b4 (fun b hb => b5 b hb) b1 b2 b3 hnew (fun _ => ⟨vs, ho0, hv _ _ _ _, by simp⟩)
  refine ⟨v', .own 0 n, [.sl t size n false cells], R, _, he, ⟨rfl, rfl⟩, hpush.1, ?_, hpush.2⟩
  simp only [VR]
  refine ⟨.sl t size n false cells, by simp, ?_, .inr ⟨rfl, Nat.le_refl _, fun _ => by simp⟩⟩
  rcases ho.2 with ⟨h, _⟩ | ⟨g, cap, cur, h, _⟩ <;> exact ⟨_, _, _, h⟩
/-- A row of numbers that came in, cell by cell. -/
theorem VR.ints_cells {R : Nat → Prop} {A : Nat → Value} {H : List AO} {w : World} {k : IntKind} {xs : List Int} {nn : Bool} {c : Value} (h : VR R A H w (.row 1 xs.length nn (ints k xs)) c) :
    (c = .slice none 0 0 ∧ xs = []) ∨ ∃ (a : Addr) (cap : Nat), c = .slice (some a) xs.length cap ∧ xs.length ≤ cap ∧ (0 < xs.length → ∃ b off, a = ⟨b, off, none⟩ ∧ R b ∧ ∀ j, j < xs.length → w.cell? ⟨b, off + j, none⟩ = some (.int k (xs.getD j 0))) := by
  simp only [VR] at h
  rcases h with ⟨h1, h2, _⟩ | ⟨a, cap, vs, h1, h2, h3, h4, h5, h6⟩
  · exact .inl ⟨h1, List.eq_nil_of_length_eq_zero h2⟩
  · refine .inr ⟨a, cap, h1, h3, fun hp => ?_⟩
    obtain ⟨q1, q2⟩ := h2 hp
    refine ⟨a.block, a.off, addr_eta q2, q1, fun j hj => ?_⟩
    obtain ⟨v, hv1, hv2⟩ := h5.get j (.lit (.int k (xs.getD j 0))) (by simp [ints, hj, List.getD_eq_getElem?_getD])
    simp only [VR] at hv2
    subst hv2
    have := h6 j _ hv1
    rw [addr_eta q2, Addr.add_mid] at this
    exact this
/-! ### rows whose elements are structs, strings or rows of numbers that are only read -/
/-- How an element is told by its cells. -/
class Enc (α : Type) where
  en : α → List AV
  z : α
  sz : Nat
  pos : 0 < sz
  len : ∀ x, (en x).length = sz
  one : ∀ x, (en x).all AV.one = true
  nid : ∀ x, noids (en x) = true
/-- None of its cells is a row. -/
class EncN (α : Type) [Enc α] : Prop where
  nr : ∀ x : α, norows (Enc.en x) = true
def Enc.cells {α : Type} [Enc α] : List α → List AV
  | [] => []
  | x :: xs => Enc.en x ++ Enc.cells xs
def Enc.rd {α : Type} [Enc α] (xs : List α) (i : Int) : α := xs.getD i.toNat Enc.z
theorem noids_app : ∀ xs ys : List AV, noids (xs ++ ys) = (noids xs && noids ys)
  | [], ys => by simp [noids]
  | x :: xs, ys => by simp [noids, noids_app xs ys, Bool.and_assoc]
theorem norows_app : ∀ xs ys : List AV, norows (xs ++ ys) = (norows xs && norows ys)
  | [], ys => by simp [norows]
  | x :: xs, ys => by simp [norows, norows_app xs ys, Bool.and_assoc]
mutual
theorem renV_noid (f : Nat → Nat) : ∀ x : AV, noid x = true → renV f x = x
  | .any, _ => rfl
  | .lit _, _ => rfl
  | .row s n nn cells, h => by simp only [renV]; rw [renVs_noids f cells (by simpa only [noid] using h)]
  | .rptr cells, h => by simp only [renV]; rw [renVs_noids f cells (by simpa only [noid] using h)]
  | .agg cells, h => by simp only [renV]; rw [renVs_noids f cells (by simpa only [noid] using h)]
  | .tup cells, h => by simp only [renV]; rw [renVs_noids f cells (by simpa only [noid] using h)]
  | .fn g cells, h => by simp only [renV]; rw [renVs_noids f cells (by simpa only [noid] using h)]
  | .own _ _, h => by simp [noid] at h
  | .optr _ _ _, h => by simp [noid] at h
  | .ptr _ _, h => by simp [noid] at h
theorem renVs_noids (f : Nat → Nat) : ∀ xs : List AV, noids xs = true → renVs f xs = xs
  | [], _ => rfl
  | x :: xs, h => by
    simp only [noids, Bool.and_eq_true] at h
    simp only [renVs]
    rw [renV_noid f x h.1, renVs_noids f xs h.2]
end
section
variable {α : Type} [Enc α]
theorem Enc.cells_length : ∀ xs : List α, (Enc.cells xs).length = xs.length * Enc.sz α
  | [] => by simp [Enc.cells]
  | x :: xs => by simp only [Enc.cells, List.length_append, List.length_cons, Enc.len, Enc.cells_length xs, Nat.add_mul, Nat.one_mul]; omega
theorem Enc.cells_append : ∀ xs ys : List α, Enc.cells xs ++ Enc.cells ys = Enc.cells (xs ++ ys)
  | [], ys => rfl
  | x :: xs, ys => by simp only [Enc.cells, List.cons_append, List.append_assoc, Enc.cells_append xs ys]
theorem Enc.cells_one : ∀ xs : List α, (Enc.cells xs).all AV.one = true
  | [] => rfl
  | x :: xs => by simp only [Enc.cells, List.all_append, Enc.one, Enc.cells_one xs, Bool.and_true]
theorem Enc.cells_noids : ∀ xs : List α, noids (Enc.cells xs) = true
  | [] => rfl
  | x :: xs => by simp only [Enc.cells, noids_app, Enc.nid, Enc.cells_noids xs, Bool.and_true]
theorem Enc.cells_norows [EncN α] : ∀ xs : List α, norows (Enc.cells xs) = true
  | [] => rfl
  | x :: xs => by simp only [Enc.cells, norows_app, EncN.nr, Enc.cells_norows xs, Bool.and_true]
theorem Enc.cells_ren (f : Nat → Nat) (xs : List α) : renVs f (Enc.cells xs) = Enc.cells xs := renVs_noids f _ (Enc.cells_noids xs)
theorem Enc.cells_frz (id n : Nat) (r : AV) (xs : List α) : frzVs id n r (Enc.cells xs) = Enc.cells xs := frzVs_noids _ (Enc.cells_noids xs)
theorem Enc.cells_drop : ∀ (xs : List α) (i : Nat), (Enc.cells xs).drop (i * Enc.sz α) = Enc.cells (xs.drop i)
  | xs, 0 => by simp
  | [], i + 1 => by simp [Enc.cells]
  | x :: xs, i + 1 => by
    simp only [Enc.cells, List.drop_succ_cons]
    rw [Nat.add_mul, Nat.one_mul, Nat.add_comm, ← Enc.len x, List.drop_length_add_append, Enc.len x]
    exact Enc.cells_drop xs i
theorem Enc.cells_at {xs : List α} {i : Int} (h0 : 0 ≤ i) (h1 : i < xs.length) : (Enc.cells xs).drop (i.toNat * Enc.sz α) = Enc.en (Enc.rd xs i) ++ Enc.cells (xs.drop (i.toNat + 1)) := by
  have h2 : i.toNat < xs.length := by omega
  rw [Enc.cells_drop, List.drop_eq_getElem_cons h2]
  simp only [Enc.cells, Enc.rd]
  rw [List.getD_eq_getElem?_getD, List.getElem?_eq_getElem h2, Option.getD_some]
theorem Enc.get {xs : List α} {i : Int} {fo : Nat} {v : AV} (h0 : 0 ≤ i) (h1 : i < xs.length) (hv : (Enc.en (Enc.rd xs i))[fo]? = some v) : ((Enc.cells xs).drop (i.toNat * Enc.sz α + fo))[0]? = some v := by
  rw [← List.drop_drop, Enc.cells_at h0 h1, List.getElem?_drop]
  show (Enc.en (Enc.rd xs i) ++ _)[fo]? = some v
  rw [List.getElem?_append_left (List.getElem?_eq_some_iff.1 hv).1, hv]
theorem Enc.take {xs : List α} {i : Int} (h0 : 0 ≤ i) (h1 : i < xs.length) : ((Enc.cells xs).drop (i.toNat * Enc.sz α)).take (Enc.sz α) = Enc.en (Enc.rd xs i) := by
  rw [Enc.cells_at h0 h1, ← Enc.len (Enc.rd xs i), List.take_left]
theorem Enc.fits {xs : List α} {i : Int} (h0 : 0 ≤ i) (h1 : i < xs.length) : Enc.sz α ≤ ((Enc.cells xs).drop (i.toNat * Enc.sz α)).length := by
  rw [Enc.cells_at h0 h1, List.length_append, Enc.len]; omega
end
/-- A cell may be told to have fewer cells behind it. -/
theorem VR.rptrTake {R : Nat → Prop} {A : Nat → Value} {H : List AO} {w : World} {cells : List AV} {c : Value} (n : Nat) (h : VR R A H w (.rptr cells) c) : VR R A H w (.rptr (cells.take n)) c := by
  simp only [VR] at h ⊢
  obtain ⟨a, vs, h1, h2, h3, h4, h5⟩ := h
  refine ⟨a, vs.take n, h1, h2, h3, h4.take n, fun j u hu => h5 j u ?_⟩
  rw [List.getElem?_take] at hu
  split at hu
  · exact hu
  · cases hu
instance : Enc ByteArray where
  en s := [.lit (.string s)]
  z := ⟨#[]⟩
  sz := 1
  pos := by decide
  len _ := rfl
  one _ := rfl
  nid _ := rfl
instance : EncN ByteArray where
  nr _ := rfl
instance : Enc (List Int) where
  en l := [.row 1 l.length false (ints .i64 l)]
  z := []
  sz := 1
  pos := by decide
  len _ := rfl
  one _ := rfl
  nid l := by simp [noids, noid, noids_ints]
theorem awset9_ {α : Type} [Enc α] : (∀ xs : List α, (Enc.cells xs).length = xs.length * Enc.sz α) ∧ (∀ xs ys : List α, Enc.cells xs ++ Enc.cells ys = Enc.cells (xs ++ ys)) ∧ (∀ xs : List α, (Enc.cells xs).all AV.one = true) ∧ (∀ xs : List α, noids (Enc.cells xs) = true) ∧
    (∀ f (xs : List α), renVs f (Enc.cells xs) = Enc.cells xs) ∧ (∀ id n r (xs : List α), frzVs id n r (Enc.cells xs) = Enc.cells xs) :=
  ⟨Enc.cells_length, Enc.cells_append, Enc.cells_one, Enc.cells_noids, Enc.cells_ren, fun id n r xs => Enc.cells_frz id n r xs⟩
theorem awset10_ {α : Type} [Enc α] [EncN α] : ∀ xs : List α, norows (Enc.cells xs) = true := Enc.cells_norows
/-- A row of bytes, as a string. -/
theorem AStep.convBytes {P : Program} {H : List AO} {N : Nat} {e : Env} {o : Oper} {s t el : TypeId} {x : Operand} {n : Nat} {xs : List Int} (ho : o.op = .convert s t x) (hs : P.underlying s = some (.slice el)) (he : P.underlying el = some (.int .u8)) (ht : P.underlying t = some .string)
    (hx : rowOf H (ev e x) = some (n, ints .u8 xs)) (hn : n = xs.length) : AStep P N o e H (.lit (.string (strOfNums xs))) H := by
  subst hn
  intro R F A w a hi hE
  have hrow := row_sound hi (hE.ev x) hx
  refine ⟨.string (strOfNums xs), w, A, .inl ?_, hi, by simp only [VR], Stp.refl ..⟩
  have hc : (convert s t (a.eval x)).run P w = .ok (.string (strOfNums xs)) w := by
    rcases hrow with ⟨h1, h2, _⟩ | ⟨ad, cap, vs, h1, _, _, h4, h5⟩
    · rw [h1]
      obtain rfl : xs = [] := List.eq_nil_of_length_eq_zero h2
      exact run_convert_bytes_nil w s el hs he 0 0 t ht
    · rw [h1]
      have hl : (loadCells ad xs.length).run P w = .ok (xs.map (Value.int .u8)).toArray w := by
        have := run_loadCells_list (P := P) w ad (xs.map (Value.int .u8)) (fun j v hj => by
          rw [List.getElem?_map] at hj
          obtain ⟨z, h6, rfl⟩ := Option.map_eq_some_iff.1 hj
          obtain ⟨u, h7, h8⟩ := h4.get j (.lit (.int .u8 z)) (by simp [ints, h6])
          simp only [VR] at h8
          subst h8
          exact h5 j _ h7)
        simpa using this
      rw [run_convert_bytes_string w s t el _ xs.length cap hs he ht, run_bytesToString w ad xs.length cap xs hl, foldl_push_bytes]
      simp [strOfNums, ByteArray.empty, ByteArray.emptyWithCapacity]
      rfl
  unfold execOp
  rw [ho]
  simp only [Sem.run_bind, hc, Result.andThen_ok, Sem.run_pure]
/-! ### rows of strings, for functions whose contract is given -/
theorem Enc.cells_str : ∀ xs : List ByteArray, Enc.cells xs = xs.map fun s => AV.lit (.string s)
  | [] => rfl
  | x :: xs => by simp only [Enc.cells, List.map_cons, Enc.cells_str xs]; rfl
theorem VRs_strs {R : Nat → Prop} {A : Nat → Value} {H : List AO} {w : World} : ∀ xs : List ByteArray, VRs R A H w (Enc.cells xs) (xs.map Value.string)
  | [] => by simp [Enc.cells, VRs]
  | x :: xs => by rw [Enc.cells_str]; simp only [List.map_cons, VRs, VR]; exact ⟨trivial, by rw [← Enc.cells_str]; exact VRs_strs xs⟩
theorem VR.strs_cells {R : Nat → Prop} {A : Nat → Value} {H : List AO} {w : World} {xs : List ByteArray} {nn : Bool} {c : Value} (h : VR R A H w (.row 1 xs.length nn (Enc.cells xs)) c) :
    (c = .slice none 0 0 ∧ xs = []) ∨ ∃ (a : Addr) (cap : Nat), c = .slice (some a) xs.length cap ∧ xs.length ≤ cap ∧ (0 < xs.length → ∃ b off, a = ⟨b, off, none⟩ ∧ R b ∧ ∀ (j : Nat) s, xs[j]? = some s → w.cell? ⟨b, off + j, none⟩ = some (.string s)) := by
  simp only [VR] at h
  rcases h with ⟨h1, h2, _⟩ | ⟨a, cap, vs, h1, h2, h3, h4, h5, h6⟩
  · exact .inl ⟨h1, List.eq_nil_of_length_eq_zero h2⟩
  · refine .inr ⟨a, cap, h1, h3, fun hp => ?_⟩
    obtain ⟨q1, q2⟩ := h2 hp
    refine ⟨a.block, a.off, addr_eta q2, q1, fun j s hj => ?_⟩
    obtain ⟨v, hv1, hv2⟩ := h5.get j (.lit (.string s)) (by rw [Enc.cells_str, List.getElem?_map, hj]; rfl)
    simp only [VR] at hv2
    subst hv2
    have := h6 j _ hv1
    rw [addr_eta q2, Addr.add_mid] at this
    exact this
/-- Behind a call that leaves all that lay there, and hands back a value of one cell. -/
theorem CallPost.below {R F : Nat → Prop} {A : Nat → Value} {w w' : World} {x : Ending} {r : Value} (hi : Inv R F A [] w) (he : x = .returned r) (hb : Below w.heap.size w w') : CallPost (fun v H' => v = .lit r ∧ H' = []) R F A [] w x w' := by
  obtain ⟨b1, b2, b3, b4, b5⟩ := hb
  refine ⟨r, .lit r, [], R, A, he, ⟨rfl, rfl⟩, ⟨hi.rf, fun b hb => Nat.lt_of_lt_of_le (hi.rlt b hb) b4, fun b hb => Nat.lt_of_lt_of_le (hi.flt b hb) b4, ?_, ?_, ?_, hi.tab.mono (fun _ h => h) (fun b hb => b5 b (hi.rlt b hb))⟩, by simp only [VR],
    ⟨fun _ h => h, fun b hb => b5 b (hb.elim (hi.rlt b) (hi.flt b)), Ext.refl _ _ _, b1, b2, b3, b4⟩⟩
  · intro i o b h; simp at h
  · intro i j o p b h; simp at h
  · intro i o h; simp at h
/-! ### rows that own the rows of their cells -/
/-- A step of the walk's own telling: no operation, other words for what stands there. 'S': the objects that are told anew. -/
def Gh (N : Nat) (S : List Nat) (e : Env) (H : List AO) (e' : Env) (H' : List AO) : Prop :=
  ∀ R F A w a, Inv R F A H w → EnvOk R A H w N e a → ∃ A', Inv R F A' H' w ∧ EnvOk R A' H' w N e' a ∧ Stp H.length R F A H w R A' H' w ∧
    (∀ (i : Nat) (o : AO), i ∉ S → H[i]? = some o → H'[i]? = some o) ∧ (∀ (i : Nat) (o : AO), H[i]? = some o → A' i = A i)
section
variable {R F : Nat → Prop} {A : Nat → Value} {H H' Hs : List AO} {w : World} {P : Program} {m N : Nat} {e e' : Env} {a : Act} {K : Env → List AO → Prop} {o : Oper} {ops : Array Oper} {rest : List Oper} {l : List Oper} {ds : List Nat} {s : Sc} {S : List Nat}
theorem AWp.gh {Q : Exit → Env → List AO → Prop} {c : Code} (g : Gh N S e H e' H') (h : AWp P m N c e' H' Q) : AWp P m N c e H Q := by
  intro R F A w a hi he
  obtain ⟨A', h1, h2, h3, _⟩ := g R F A w a hi he
  exact wp_mono (h R F A' w a h1 h2) fun _ _ _ => Lift.trans h3.any
theorem AOp.gh (g : Gh N S e H e' H') (h : AOp P m N o e' H' K) : AOp P m N o e H K := by
  intro R F A w a G Q hi he hG
  obtain ⟨A', h1, h2, h3, _⟩ := g R F A w a hi he
  exact h R F A' w a G Q h1 h2 fun a' w' e' H' R'' A' k1 k2 k3 k4 => hG a' w' e' H' R'' A' k1 k2 k3 (h3.any.trans k4)
theorem AList.gh (g : Gh N S e H e' H') (h : AList P m N ops rest e' H' K) : AList P m N ops rest e H K := by
  intro R F A w a G hi he hG
  obtain ⟨A', h1, h2, h3, _⟩ := g R F A w a hi he
  exact h R F A' w a G h1 h2 fun a' w' e' H' R'' A' k1 k2 k3 k4 => hG a' w' e' H' R'' A' k1 k2 k3 (h3.any.trans k4)
theorem AT.gh {g0 : Bool} (g : Gh N S e H e' H') (hS : ∀ i ∈ S, Hs[i]? = none ∨ Hs[i]? = some .gone) (h : AT P m N g0 Hs l ds s e' H' K) : AT P m N g0 Hs l ds s e H K := by
  intro n li hs hc R0 R F A w0 A0 w a G hr hg hi he hp hA hSS hG
  obtain ⟨A', h1, h2, h3, h4, h5⟩ := g R F A w a hi he
  have hne : ∀ (i : Nat) (o : AO), o ≠ .gone → Hs[i]? = some o → i ∉ S := by
    intro i o hg hi' hm
    rcases hS i hm with hid | hid <;> rw [hid] at hi' <;> cases hi'
    exact hg rfl
  exact h n li hs hc R0 R F A' w0 A0 w a G hr hg h1 h2 (fun i o q k => h4 i o (hne i o q k) (hp i o q k)) (fun i o q k => by rw [h5 i o (hp i o q k)]; exact hA i o q k) hSS
    fun a' w' e' H' R'' A' k1 k2 k3 k4 => hG a' w' e' H' R'' A' k1 k2 k3 (h3.any.trans k4)
theorem AU.gh (g : Gh N S e H e' H') (h : AU P m N l ds s e' H' K) : AU P m N l ds s e H K := by
  intro n li hs hc R F A w a G SS hi he hG
  obtain ⟨A', h1, h2, h3, _⟩ := g R F A w a hi he
  exact h n li hs hc R F A' w a G SS h1 h2 fun a' w' e' H' R'' A' k1 k2 k3 k4 => hG a' w' e' H' R'' A' k1 k2 k3 (h3.any.trans k4)
theorem Gh.trans {S2 : List Nat} {e2 : Env} {H2 : List AO} (h : Gh N S e H e' H') (k : Gh N S2 e' H' e2 H2) : Gh N (S ++ S2) e H e2 H2 := by
  intro R F A w a hi he
  obtain ⟨A', h1, h2, h3, h4, h5⟩ := h R F A w a hi he
  obtain ⟨A2, k1, k2, k3, k4, k5⟩ := k R F A' w a h1 h2
  refine ⟨A2, k1, k2, h3.trans k3.any, fun i o hn ho => ?_, fun i o ho => ?_⟩
  · simp only [List.mem_append, not_or] at hn
    exact k4 i o hn.2 (h4 i o hn.1 ho)
  · obtain ⟨o', h6, _⟩ := h3.ext i o (List.getElem?_eq_some_iff.1 ho).1 ho
    rw [k5 i o' h6, h5 i o ho]

theorem set_split {H : List AO} {id : Nat} {o : AO} (hlt : id < H.length) {i : Nat} {p : AO} (hp : (H.set id o)[i]? = some p) : (i = id ∧ p = o) ∨ (i ≠ id ∧ H[i]? = some p) := by
  by_cases e : i = id
  · subst e; simp [hlt] at hp; exact .inl ⟨rfl, hp.symm⟩
  · rw [List.getElem?_set_ne (Ne.symm e)] at hp; exact .inr ⟨e, hp⟩

/-- One object is told anew where it stands: its value is the same, its blocks are no more than they were. -/
theorem Gh.same {id : Nat} {o0 o1 : AO} (h0 : H[id]? = some o0) (hg0 : o0 ≠ .gone) (hg1 : o1 ≠ .gone) (hkind : o0.kind = o1.kind) (hlen : o0.len = o1.len)
    (hf : ∀ R A w b, OInv R A H w (A id) o0 → foot w (A id) o1 b → foot w (A id) o0 b) (hob : ∀ R A w, OInv R A H w (A id) o0 → OInv R A H w (A id) o1) : Gh N [id] e H e (H.set id o1) := by
  intro R F A w a hi he
  have hlt : id < H.length := (List.getElem?_eq_some_iff.1 h0).1
  have hA : (fun i => if i = id then A id else A i) = A := by
    funext j
    by_cases hj : j = id
    · rw [if_pos hj, hj]
    · rw [if_neg hj]
  have h1 := Inv.updF (w' := w) (c := A id) (o := o1) hi h0 hg0 hg1 hkind (by omega) (fun _ => rfl) (Nat.le_refl _) (fun _ _ _ => rfl) rfl rfl rfl (fun b hb => .inr (hf R A w b (hi.obj id o0 h0) hb))
    (fun hst => OInv.mono hst (fun _ _ => rfl) (hob R A w (hi.obj id o0 h0)))
  rw [hA] at h1
  exact ⟨A, h1.1, he.stp h1.2, h1.2, fun i o hn ho => by rw [List.getElem?_set_ne (fun e => hn (by simp [e]))]; exact ho, fun _ _ _ => rfl⟩

theorem DRs.ofV : ∀ {xs : List AV} {vs : List Value}, VRs R A H w xs vs → DRs R A H w (xs.map .v) vs
  | [], [], _ => by simp [DRs]
  | x :: xs, v :: vs, h => by simp only [VRs] at h; simp only [List.map_cons, DRs]; exact ⟨h.1, DRs.ofV h.2⟩
  | [], _ :: _, h => by simp [VRs] at h
  | _ :: _, [], h => by simp [VRs] at h
theorem mapv_noR (xs : List AV) : ∀ (i : Nat) (x : DV), (xs.map DV.v)[i]? = some x → x.isR = false := by
  intro i x h
  rw [List.getElem?_map] at h
  obtain ⟨y, _, rfl⟩ := Option.map_eq_some_iff.1 h
  rfl
theorem Apart.mapv {c : Value} {xs : List AV} {vs : List Value} : Apart c (xs.map .v) vs :=
  ⟨fun i j x y u v b h1 _ h3 => (by rw [mapv_noR xs i x h1] at h3; cases h3), fun i x u b h1 h2 => (by rw [mapv_noR xs i x h1] at h2; cases h2)⟩

/-- A row may be told as one whose cells may own rows. -/
theorem Gh.toDp {id : Nat} {et : TypeId} {size n : Nat} {nn : Bool} {cells : List AV} (h0 : H[id]? = some (.sl et size n nn cells)) : Gh N [id] e H e (H.set id (.dp et size n nn (cells.map .v))) := by
  refine Gh.same h0 (by simp) (by simp) rfl rfl (fun R A w b _ hb => ?_) (fun R A w h => ?_)
  · refine .inl (foot_plain (fun i => ?_) hb)
    cases hr : (AO.dp et size n nn (cells.map DV.v)).rAt i with
    | false => rfl
    | true => obtain ⟨d, h1, h2⟩ := rAt_dp hr; rw [mapv_noR cells i d h1] at h2; cases h2
  · obtain ⟨vs, h1, h2, h3⟩ := h
    exact ⟨vs, h1, DRs.ofV h2, h3, Apart.mapv⟩

/-- Its cells told anew, one by one: a cell that holds nil may be told to own a row. -/
theorem Gh.dpImp {id : Nat} {et : TypeId} {size n : Nat} {nn : Bool} {cells cells' : List DV} (h0 : H[id]? = some (.dp et size n nn cells)) (hl : cells'.length = cells.length)
    (himp : ∀ R A w (i : Nat) x y u, cells[i]? = some x → cells'[i]? = some y → DR R A H w x u → DR R A H w y u ∧ (y.isR = true → x.isR = true ∨ blk u = none)) : Gh N [id] e H e (H.set id (.dp et size n nn cells')) := by
  have old : ∀ (i : Nat) (y : DV), cells'[i]? = some y → ∃ x, cells[i]? = some x := fun i y h => by
    have := (List.getElem?_eq_some_iff.1 h).1
    exact ⟨cells[i]'(by omega), List.getElem?_eq_getElem (by omega)⟩
  refine Gh.same h0 (by simp) (by simp) rfl rfl (fun R A w b h hb => ?_) (fun R A w h => ?_)
  · obtain ⟨vs, h1, h2, h3, h4⟩ := h
    rcases foot_dp h1 (by rw [hl]; exact DR.len h2) hb with hb | ⟨i, y, u, hy, hr, hu, hb⟩
    · exact .inl hb
    · obtain ⟨x, hx⟩ := old i y hy
      obtain ⟨u', hu', hd⟩ := h2.get i x hx
      rw [hu] at hu'; cases hu'
      rcases (himp R A w i x y u hx hy hd).2 hr with k | k
      · exact dp_foot h1 hx k hu hb
      · rw [k] at hb; cases hb
  · obtain ⟨vs, h1, h2, h3, h4⟩ := h
    have hd : ∀ (i : Nat) x y u, cells[i]? = some x → cells'[i]? = some y → vs[i]? = some u → DR R A H w y u ∧ (y.isR = true → x.isR = true ∨ blk u = none) := by
      intro i x y u hx hy hu
      obtain ⟨u', hu', hd⟩ := h2.get i x hx
      rw [hu] at hu'; cases hu'
      exact himp R A w i x y u hx hy hd
    refine ⟨vs, h1, ?_, h3, ?_, ?_⟩
    · have go : ∀ (xs ys : List DV) (us : List Value), ys.length = us.length → (∀ (i : Nat) y u, ys[i]? = some y → us[i]? = some u → DR R A H w y u) → DRs R A H w ys us := by
        intro xs ys
        induction ys with
        | nil => intro us h _; cases us <;> simp_all [DRs]
        | cons y ys ih =>
          intro us h k
          cases us with
          | nil => simp at h
          | cons u us =>
            simp only [DRs]
            exact ⟨k 0 y u rfl rfl, ih us (by simpa using h) fun i y' u' q1 q2 => k (i + 1) y' u' (by simpa using q1) (by simpa using q2)⟩
      refine go cells cells' vs (by rw [hl]; exact DR.len h2) fun i y u hy hu => ?_
      obtain ⟨x, hx⟩ := old i y hy
      exact (hd i x y u hx hy hu).1
    · intro i j y z u v b hy hz ry rz hu hv hb hc
      obtain ⟨x, hx⟩ := old i y hy
      obtain ⟨x', hx'⟩ := old j z hz
      rcases (hd i x y u hx hy hu).2 ry with k | k
      · rcases (hd j x' z v hx' hz hv).2 rz with k' | k'
        · exact h4.1 i j x x' u v b hx hx' k k' hu hv hb hc
        · rw [k'] at hc; cases hc
      · rw [k] at hb; cases hb
    · intro i y u b hy ry hu hb
      obtain ⟨x, hx⟩ := old i y hy
      rcases (hd i x y u hx hy hu).2 ry with k | k
      · exact h4.2 i x u b hx k hu hb
      · rw [k] at hb; cases hb

theorem DRs.set : ∀ {xs : List DV} {vs : List Value}, DRs R A H w xs vs → ∀ (j : Nat) {x : DV} {v : Value}, vs[j]? = some v → DR R A H w x v → DRs R A H w (xs.set j x) vs
  | x :: xs, v :: vs, h, 0, _, _, hv, k => by simp only [DRs] at h; simp at hv; subst hv; simp only [List.set_cons_zero, DRs]; exact ⟨k, h.2⟩
  | x :: xs, v :: vs, h, j + 1, _, _, hv, k => by simp only [DRs] at h; simp only [List.set_cons_succ, DRs]; exact ⟨h.1, DRs.set h.2 j (by simpa using hv) k⟩
  | [], [], _, j, _, _, _, _ => by simp [DRs]
  | [], _ :: _, h, _, _, _, _, _ => by simp [DRs] at h
  | _ :: _, [], h, _, _, _, _, _ => by simp [DRs] at h

/-- The row that a cell owns, as an object by itself. -/
theorem Gh.take {id i : Nat} {et : TypeId} {size n : Nat} {nn : Bool} {cells : List DV} {et' : TypeId} {size' n' : Nat} {cells' : List AV} (h0 : H[id]? = some (.dp et size n nn cells)) (hc : cells[i]? = some (.r et' size' n' cells')) :
    Gh N [id] e H e (H.set id (.dp et size n nn (cells.set i (.v (.own H.length n')))) ++ [.sl et' size' n' false cells']) := by
  intro R F A w a hi he
  have hlt : id < H.length := (List.getElem?_eq_some_iff.1 h0).1
  have hil : i < cells.length := (List.getElem?_eq_some_iff.1 hc).1
  obtain ⟨vs, h1, h2, h3, h4⟩ := hi.obj id _ h0
  obtain ⟨u, hu, us, k1, k2⟩ := h2.get i _ hc
  let A' : Nat → Value := fun k => if k = H.length then u else A k
  let H' : List AO := H.set id (.dp et size n nn (cells.set i (.v (.own H.length n')))) ++ [.sl et' size' n' false cells']
  have hAo : ∀ k, k < H.length → A' k = A k := fun k hk => if_neg (by omega)
  have hHlen : (H.set id (.dp et size n nn (cells.set i (.v (.own H.length n'))))).length = H.length := by simp
  have split : ∀ k p, H'[k]? = some p → (k = H.length ∧ p = .sl et' size' n' false cells') ∨ (k = id ∧ p = .dp et size n nn (cells.set i (.v (.own H.length n')))) ∨ (k < H.length ∧ k ≠ id ∧ H[k]? = some p) := by
    intro k p hp
    by_cases hk : k < H.length
    · right
      rw [List.getElem?_append_left (by rw [hHlen]; exact hk)] at hp
      rcases set_split hlt hp with h | h
      · exact .inl h
      · exact .inr ⟨hk, h⟩
    · left
      rw [List.getElem?_append_right (by rw [hHlen]; omega), hHlen] at hp
      have hlt2 := (List.getElem?_eq_some_iff.1 hp).1
      simp at hlt2
      have : k = H.length := by omega
      subst this
      simp at hp
      exact ⟨rfl, hp.symm⟩
  have hst : Stp H.length R F A H w R A' H' w := by
    refine ⟨fun _ h => h, fun _ _ => rfl, ?_, rfl, rfl, rfl, Nat.le_refl _⟩
    intro k p hk hp
    by_cases e : k = id
    · subst e
      rw [h0] at hp; cases hp
      exact ⟨.dp et size n nn (cells.set i (.v (.own H.length n'))), by rw [List.getElem?_append_left (by rw [hHlen]; exact hk)]; simp [hk], .inr ⟨Nat.le_refl _, rfl, fun _ => hAo _ hk⟩⟩
    · exact ⟨p, by rw [List.getElem?_append_left (by rw [hHlen]; exact hk), List.getElem?_set_ne (Ne.symm e)]; exact hp, .inr ⟨Nat.le_refl _, rfl, fun _ => hAo _ hk⟩⟩
  have hcl : (cells.set i (.v (.own H.length n'))).length = vs.length := by rw [List.length_set]; exact DR.len h2
  -- blocks
  have fid : ∀ b, foot w (A id) (.dp et size n nn (cells.set i (.v (.own H.length n')))) b → foot w (A id) (.dp et size n nn cells) b ∧ blk u ≠ some b := by
    intro b hb
    rcases foot_dp h1 hcl hb with hb | ⟨j, x, v, hx, hr, hv, hb⟩
    · exact ⟨.inl hb, fun k => h4.2 i _ u b hc rfl hu k hb⟩
    · have hji : j ≠ i := by
        intro e; subst e
        rw [List.getElem?_set_self hil] at hx; cases hx; cases hr
      rw [List.getElem?_set_ne (Ne.symm hji)] at hx
      exact ⟨dp_foot h1 hx hr hv hb, fun k => hji (h4.1 j i _ _ v u b hx hc hr rfl hv hu hb k)⟩
  have fnew : ∀ b, blk u = some b → foot w (A id) (.dp et size n nn cells) b := fun b hb => dp_foot h1 hc rfl hu hb
  have howner : ∀ k p b, H'[k]? = some p → p ≠ .gone → foot w (A' k) p b → ∃ k' p', H[k']? = some p' ∧ p' ≠ .gone ∧ foot w (A k') p' b ∧ ((k < H.length ∧ k' = k) ∨ (k = H.length ∧ k' = id ∧ blk u = some b)) ∧ (k = id → blk u ≠ some b) := by
    intro k p b hp hg hb
    rcases split k p hp with ⟨rfl, rfl⟩ | ⟨rfl, rfl⟩ | ⟨hk, hne, hp'⟩
    · have hb' : blk u = some b := by have := foot_plain (fun _ => rfl) hb; simpa [A'] using this
      exact ⟨id, _, h0, by simp, fnew b hb', .inr ⟨rfl, rfl, hb'⟩, fun e => by omega⟩
    · rw [hAo _ hlt] at hb
      exact ⟨k, _, h0, by simp, (fid b hb).1, .inl ⟨hlt, rfl⟩, fun _ => (fid b hb).2⟩
    · rw [hAo _ hk] at hb
      exact ⟨k, p, hp', hg, hb, .inl ⟨hk, rfl⟩, fun e => absurd e hne⟩
  have hinv : Inv R F A' H' w := by
    refine ⟨hi.rf, hi.rlt, hi.flt, ?_, ?_, ?_, hi.tab⟩
    · intro k p b hp hg hb
      obtain ⟨k', p', q1, q2, q3, _⟩ := howner k p b hp hg hb
      exact hi.own k' p' b q1 q2 q3
    · intro k k2 p q b hp hq hgp hgq hb hc2
      obtain ⟨k', p', q1, q2, q3, q4, q5⟩ := howner k p b hp hgp hb
      obtain ⟨k2', p2', r1, r2, r3, r4, r5⟩ := howner k2 q b hq hgq hc2
      have := hi.inj k' k2' p' p2' b q1 r1 q2 r2 q3 r3
      rcases q4 with ⟨_, rfl⟩ | ⟨rfl, rfl, hub⟩ <;> rcases r4 with ⟨_, rfl⟩ | ⟨rfl, rfl, hub2⟩
      · exact this
      · exact absurd hub2 (q5 this)
      · exact absurd hub (r5 this.symm)
      · rfl
    · intro k p hp
      rcases split k p hp with ⟨rfl, rfl⟩ | ⟨rfl, rfl⟩ | ⟨hk, hne, hp'⟩
      · have : A' H.length = u := if_pos rfl
        rw [this]
        exact ⟨us, k1, hst.vrs k2, by simp⟩
      · rw [hAo _ hlt]
        have h5 : DRs R A' H' w cells vs := h2.imp fun j x v q1 q2 q3 => by
          cases x with
          | v x => exact hst.vr q3
          | r e' s' m' cs' => obtain ⟨ws, r1, r2⟩ := q3; exact ⟨ws, r1, hst.vrs r2⟩
        refine ⟨vs, h1, h5.set i hu ?_, h3, ?_, ?_⟩
        · show VR R A' H' w (.own H.length n') u
          simp only [VR]
          refine ⟨.sl et' size' n' false cells', by simp [H'], ?_, .inr ⟨rfl, Nat.le_refl _, fun _ => (if_pos rfl).symm⟩⟩
          rcases k1.2 with ⟨q, _⟩ | ⟨g, cap, cur, q, _⟩ <;> exact ⟨_, _, _, q⟩
        · intro j j' x y v v' b hx hy rx ry hv hv' hb hb'
          have hj : j ≠ i := by intro e; subst e; rw [List.getElem?_set_self hil] at hx; cases hx; cases rx
          have hj' : j' ≠ i := by intro e; subst e; rw [List.getElem?_set_self hil] at hy; cases hy; cases ry
          rw [List.getElem?_set_ne (Ne.symm hj)] at hx
          rw [List.getElem?_set_ne (Ne.symm hj')] at hy
          exact h4.1 j j' x y v v' b hx hy rx ry hv hv' hb hb'
        · intro j x v b hx rx hv hb
          have hj : j ≠ i := by intro e; subst e; rw [List.getElem?_set_self hil] at hx; cases hx; cases rx
          rw [List.getElem?_set_ne (Ne.symm hj)] at hx
          exact h4.2 j x v b hx rx hv hb
      · rw [hAo _ hk]
        exact OInv.mono hst (fun _ _ => rfl) (hi.obj k p hp')
  exact ⟨A', hinv, he.stp hst, hst, fun k p hn hp => by
    have hk := (List.getElem?_eq_some_iff.1 hp).1
    rw [List.getElem?_append_left (by rw [hHlen]; exact hk), List.getElem?_set_ne (fun e => hn (by simp [e]))]; exact hp, fun k p hp => hAo k (List.getElem?_eq_some_iff.1 hp).1⟩

/-- A row that a cell leads to belongs to the cell from here on. -/
theorem Gh.give {id j i : Nat} {et : TypeId} {size n : Nat} {nn nn' : Bool} {cells : List DV} {et' : TypeId} {size' n' : Nat} {cells' : List AV} (h0 : H[id]? = some (.dp et size n nn cells)) (hj : H[j]? = some (.sl et' size' n' nn' cells')) (hc : cells[i]? = some (.v (.own j n'))) :
    Gh N [id, j] e H e ((H.set id (.dp et size n nn (cells.set i (.r et' size' n' cells')))).set j .gone) := by
  intro R F A w a hi he
  have hlt : id < H.length := (List.getElem?_eq_some_iff.1 h0).1
  have hjlt : j < H.length := (List.getElem?_eq_some_iff.1 hj).1
  have hij : id ≠ j := by intro e; subst e; rw [h0] at hj; cases hj
  have hil : i < cells.length := (List.getElem?_eq_some_iff.1 hc).1
  obtain ⟨vs, h1, h2, h3, h4⟩ := hi.obj id _ h0
  obtain ⟨us, k1, k2, k3⟩ := hi.obj j _ hj
  obtain ⟨u, hu, hd⟩ := h2.get i _ hc
  have huA : u = A j := by
    have hd : VR R A H w (.own j n') u := hd
    simp only [VR] at hd
    obtain ⟨o1, q1, _, q3⟩ := hd
    rw [hj] at q1; cases q1
    exact (q3.resolve_left (by simp)).2.2 rfl
  let H' : List AO := (H.set id (.dp et size n nn (cells.set i (.r et' size' n' cells')))).set j .gone
  have split : ∀ k p, H'[k]? = some p → (k = j ∧ p = .gone) ∨ (k = id ∧ p = .dp et size n nn (cells.set i (.r et' size' n' cells'))) ∨ (k ≠ id ∧ k ≠ j ∧ H[k]? = some p) := by
    intro k p hp
    rcases set_split (by simpa using hjlt) hp with h | ⟨h, hp'⟩
    · exact .inl h
    · rcases set_split hlt hp' with q | ⟨q, r⟩
      · exact .inr (.inl q)
      · exact .inr (.inr ⟨q, h, r⟩)
  have hst : Stp H.length R F A H w R A H' w := by
    refine ⟨fun _ h => h, fun _ _ => rfl, ?_, rfl, rfl, rfl, Nat.le_refl _⟩
    intro k p hk hp
    by_cases e2 : k = j
    · subst e2
      exact ⟨.gone, by simp [H', hk], .inl rfl⟩
    by_cases e : k = id
    · subst e
      rw [h0] at hp; cases hp
      exact ⟨.dp et size n nn (cells.set i (.r et' size' n' cells')), by simp only [H']; rw [List.getElem?_set_ne (Ne.symm e2)]; simp [hk], .inr ⟨Nat.le_refl _, rfl, fun _ => rfl⟩⟩
    · exact ⟨p, by simp only [H']; rw [List.getElem?_set_ne (Ne.symm e2), List.getElem?_set_ne (Ne.symm e)]; exact hp, .inr ⟨Nat.le_refl _, rfl, fun _ => rfl⟩⟩
  have hcl : (cells.set i (.r et' size' n' cells')).length = vs.length := by rw [List.length_set]; exact DR.len h2
  have fj : ∀ b, blk u = some b → foot w (A j) (.sl et' size' n' nn' cells') b := fun b hb => .inl (by rw [← huA]; exact hb)
  have fid : ∀ b, foot w (A id) (.dp et size n nn (cells.set i (.r et' size' n' cells'))) b → foot w (A id) (.dp et size n nn cells) b ∨ blk u = some b := by
    intro b hb
    rcases foot_dp h1 hcl hb with hb | ⟨k, x, v, hx, hr, hv, hb⟩
    · exact .inl (.inl hb)
    · by_cases hki : k = i
      · subst hki; rw [hu] at hv; cases hv; exact .inr hb
      · rw [List.getElem?_set_ne (Ne.symm hki)] at hx
        exact .inl (dp_foot h1 hx hr hv hb)
  have hno : ∀ b, foot w (A id) (.dp et size n nn cells) b → blk u ≠ some b := fun b hb k => hij (hi.inj id j _ _ b h0 hj (by simp) (by simp) hb (fj b k))
  have howner : ∀ k p b, H'[k]? = some p → p ≠ .gone → foot w (A k) p b → k ≠ j ∧ ∃ k' p', H[k']? = some p' ∧ p' ≠ .gone ∧ foot w (A k') p' b ∧ (k' = k ∨ (k = id ∧ k' = j)) := by
    intro k p b hp hg hb
    rcases split k p hp with ⟨rfl, rfl⟩ | ⟨rfl, rfl⟩ | ⟨hk, hne, hp'⟩
    · exact absurd rfl hg
    · refine ⟨hij, ?_⟩
      rcases fid b hb with q | q
      · exact ⟨k, _, h0, by simp, q, .inl rfl⟩
      · exact ⟨j, _, hj, by simp, fj b q, .inr ⟨rfl, rfl⟩⟩
    · exact ⟨hne, k, p, hp', hg, hb, .inl rfl⟩
  have hinv : Inv R F A H' w := by
    refine ⟨hi.rf, hi.rlt, hi.flt, ?_, ?_, ?_, hi.tab⟩
    · intro k p b hp hg hb
      obtain ⟨_, k', p', q1, q2, q3, _⟩ := howner k p b hp hg hb
      exact hi.own k' p' b q1 q2 q3
    · intro k k2 p q b hp hq hgp hgq hb hc2
      obtain ⟨n1, k', p', q1, q2, q3, q4⟩ := howner k p b hp hgp hb
      obtain ⟨n2, k2', p2', r1, r2, r3, r4⟩ := howner k2 q b hq hgq hc2
      have := hi.inj k' k2' p' p2' b q1 r1 q2 r2 q3 r3
      rcases q4 with rfl | ⟨rfl, rfl⟩ <;> rcases r4 with rfl | ⟨rfl, rfl⟩
      · exact this
      · exact absurd this n1
      · exact absurd this.symm n2
      · rfl
    · intro k p hp
      rcases split k p hp with ⟨rfl, rfl⟩ | ⟨rfl, rfl⟩ | ⟨hk, hne, hp'⟩
      · trivial
      · have h5 : DRs R A H' w cells vs := h2.imp fun q x v q1 q2 q3 => by
          cases x with
          | v x => exact hst.vr q3
          | r e' s' m' cs' => obtain ⟨ws, r1, r2⟩ := q3; exact ⟨ws, r1, hst.vrs r2⟩
        refine ⟨vs, h1, h5.set i hu ⟨us, by rw [huA]; exact k1, hst.vrs k2⟩, h3, ?_, ?_⟩
        · intro q q' x y v v' b hx hy rx ry hv hv' hb hb'
          by_cases e1 : q = i
          · by_cases e2 : q' = i
            · omega
            · subst e1
              rw [hu] at hv; cases hv
              rw [List.getElem?_set_ne (Ne.symm e2)] at hy
              exact absurd hb (hno b (dp_foot h1 hy ry hv' hb'))
          · rw [List.getElem?_set_ne (Ne.symm e1)] at hx
            by_cases e2 : q' = i
            · subst e2
              rw [hu] at hv'; cases hv'
              exact absurd hb' (hno b (dp_foot h1 hx rx hv hb))
            · rw [List.getElem?_set_ne (Ne.symm e2)] at hy
              exact h4.1 q q' x y v v' b hx hy rx ry hv hv' hb hb'
        · intro q x v b hx rx hv hb
          by_cases e1 : q = i
          · subst e1
            rw [hu] at hv; cases hv
            exact fun k => hno b (.inl k) hb
          · rw [List.getElem?_set_ne (Ne.symm e1)] at hx
            exact h4.2 q x v b hx rx hv hb
      · exact OInv.mono hst (fun _ _ => rfl) (hi.obj k p hp')
  exact ⟨A, hinv, he.stp hst, hst, fun k p hn hp => by
    simp only [List.mem_cons, List.not_mem_nil, or_false, not_or] at hn
    rw [List.getElem?_set_ne (Ne.symm hn.2), List.getElem?_set_ne (Ne.symm hn.1)]; exact hp, fun _ _ _ => rfl⟩
end
section
variable {R F : Nat → Prop} {A : Nat → Value} {H H' Hs : List AO} {w : World} {P : Program} {m N : Nat} {e e' : Env} {a : Act} {K : Env → List AO → Prop} {o : Oper} {ops : Array Oper} {rest : List Oper}
theorem DRs.app : ∀ {xs ys : List DV} {vs us : List Value}, DRs R A H w xs vs → DRs R A H w ys us → DRs R A H w (xs ++ ys) (vs ++ us)
  | [], ys, [], us, _, k => by simpa using k
  | x :: xs, ys, v :: vs, us, h, k => by simp only [DRs] at h; simp only [List.cons_append, DRs]; exact ⟨h.1, DRs.app h.2 k⟩
  | [], _, _ :: _, _, h, _ => by simp [DRs] at h
  | _ :: _, _, [], _, h, _ => by simp [DRs] at h
theorem DRs.tk : ∀ {xs : List DV} {vs : List Value}, DRs R A H w xs vs → ∀ n, DRs R A H w (xs.take n) (vs.take n)
  | _, _, _, 0 => by simp [DRs]
  | x :: xs, v :: vs, h, n + 1 => by simp only [DRs] at h; simp only [List.take_succ_cons, DRs]; exact ⟨h.1, DRs.tk h.2 n⟩
  | [], [], _, n + 1 => by simp [DRs]
  | [], _ :: _, h, _ + 1 => by simp [DRs] at h
  | _ :: _, [], h, _ + 1 => by simp [DRs] at h
/-- A store into a row that owns rows, where its cells own none. -/
theorem AStep.storeD {o : Oper} {t et : TypeId} {x y : Operand} {i : TypeInfo} {id off n m size : Nat} {nn : Bool} {cells : List DV} (ho : o.op = .store t x y) (hi : P.info? t = some i)
    (hx : ev e x = .optr id n off) (hH : H[id]? = some (.dp et size m nn cells)) (hn : n = m) (hok : okc (ev e y) = true) (hs : (cellsA (ev e y)).length = i.size) (hfit : off + i.size ≤ cells.length) :
    AStep P N o e H (.lit undef) (H.set id (.dp et size m nn (cells.take off ++ (cellsA (ev e y)).map .v ++ cells.drop (off + i.size)))) := by
  subst hn
  intro R F A w a hinv he
  have hvx := he.ev x
  rw [hx] at hvx
  simp only [VR] at hvx
  obtain ⟨o1, g, h1, h4, h2⟩ := hvx
  rw [hH] at h1
  cases h1
  obtain ⟨l, cap, h3⟩ := (h2.resolve_left (by simp)).2.2 rfl
  obtain ⟨vs, h5, h7, h8, h9⟩ := hinv.obj id _ hH
  have h5A := h5
  rw [h3] at h5
  have hvy := cells_of (he.ev y) hok
  have hlen := hvy.1.length
  have hl2 := DR.len h7
  have hrow := h5
  rcases h5.2 with ⟨h6, _⟩ | ⟨g', cap', cur, h6, hb, hg, hnc, hcm, hcs, htake⟩
  · simp at h6
  simp only [Value.slice.injEq, Option.some.injEq, Addr.mk.injEq, and_true] at h6
  obtain ⟨rfl, rfl, rfl⟩ := h6
  have hvl : vs.length = l * size := h5.1
  have hcl : l * size ≤ cap * size := Nat.mul_le_mul_right _ hnc
  have hst := run_storeCells_at P g off et (a.eval y).cells.toList 0 cur w hg (by simp only [Nat.add_zero]; omega) hvy.2
  simp only [Nat.add_zero] at hst
  generalize hw' : w.setRow g (cur.toList.take off ++ (a.eval y).cells.toList ++ cur.toList.drop (off + (a.eval y).cells.toList.length)).toArray = w' at hst
  have hbl : blk (A id) = some g := by rw [h3]; rfl
  have hyl : (a.eval y).cells.toList.length = i.size := by omega
  have hyl' : (a.eval y).cells.size = i.size := by rw [← Array.length_toList]; exact hyl
  have hkeep : ∀ b, blk (A id) ≠ some b → w'.heap[b]? = w.heap[b]? := fun b hb => by rw [← hw']; exact setRow_other w g b _ (fun e => hb (by rw [hbl, e]))
  let cells' : List DV := cells.take off ++ (cellsA (ev e y)).map .v ++ cells.drop (off + i.size)
  let vs' : List Value := vs.take off ++ (a.eval y).cells.toList ++ vs.drop (off + i.size)
  have how : w'.ownsRow 0 et size (A id) l vs' := by
    rw [h3]
    refine ⟨by simp only [vs', List.length_append, List.length_take, List.length_drop]; omega, .inr ⟨g, cap, (cur.toList.take off ++ (a.eval y).cells.toList ++ cur.toList.drop (off + (a.eval y).cells.toList.length)).toArray, rfl, hb, ?_, hnc, hcm, ?_, ?_⟩⟩
    · rw [← hw']; exact setRow_heap w g cur _ et (0, 0) hg
    · simp only [List.size_toArray, List.length_append, List.length_take, List.length_drop, Array.length_toList, hyl']; omega
    · simp only [vs']
      rw [hyl, ← htake]
      exact take_splice _ _ _ _ _ hyl (by omega) (by simp only [Array.length_toList]; omega)
  have hlv : cells'.length = vs'.length := by simp only [cells', vs', List.length_append, List.length_take, List.length_drop, List.length_map]; omega
  have hold : ∀ (k : Nat) (d : DV), cells'[k]? = some d → d.isR = true → cells[k]? = some d ∧ vs'[k]? = vs[k]? := by
    intro k d hk hr
    by_cases k1 : k < off
    · have e1 : cells'[k]? = cells[k]? := by
        simp only [cells']
        rw [List.append_assoc, List.getElem?_append_left (by rw [List.length_take]; omega), List.getElem?_take, if_pos k1]
      have e2 : vs'[k]? = vs[k]? := by
        simp only [vs']
        rw [List.append_assoc, List.getElem?_append_left (by rw [List.length_take]; omega), List.getElem?_take, if_pos k1]
      exact ⟨by rw [← e1]; exact hk, e2⟩
    · by_cases k2 : k < off + i.size
      · have e1 : cells'[k]? = ((cellsA (ev e y)).map DV.v)[k - off]? := by
          simp only [cells']
          rw [List.append_assoc, List.getElem?_append_right (by rw [List.length_take]; omega), List.length_take, Nat.min_eq_left (by omega), List.getElem?_append_left (by rw [List.length_map]; omega)]
        rw [e1] at hk
        rw [mapv_noR _ _ _ hk] at hr
        cases hr
      · have e1 : cells'[k]? = cells[k]? := by
          simp only [cells']
          rw [List.getElem?_append_right (by simp only [List.length_append, List.length_take, List.length_map]; omega), List.getElem?_drop]
          congr 1
          simp only [List.length_append, List.length_take, List.length_map]; omega
        have e2 : vs'[k]? = vs[k]? := by
          simp only [vs']
          rw [List.getElem?_append_right (by simp only [List.length_append, List.length_take]; omega), List.getElem?_drop]
          congr 1
          simp only [List.length_append, List.length_take]; omega
        exact ⟨by rw [← e1]; exact hk, e2⟩
  have hpush := Inv.updF (w' := w') (c := A id) (o := .dp et size l nn cells') hinv hH (by simp) (by simp) rfl (Nat.le_refl _) (fun _ => rfl)
    (by rw [← hw']; simp) (fun b _ hb => hkeep b fun h => hb (.inl h)) (by rw [← hw']; rfl) (by rw [← hw']; rfl) (by rw [← hw']; rfl)
    (fun b hb => by
      rcases foot_dp how hlv hb with hb | ⟨k, d, u, hk, hr, hu, hb⟩
      · exact .inr (.inl hb)
      · obtain ⟨q1, q2⟩ := hold k d hk hr
        exact .inr (dp_foot h5A q1 hr (by rw [← q2]; exact hu) hb)) (fun hst' => by
      refine ⟨vs', how, ?_, h8, ?_⟩
      · have e1 : DRs R (fun j => if j = id then A id else A j) (H.set id (.dp et size l nn cells')) w' cells vs := h7.imp fun k d u hk hu hd => by
          cases d with
          | v d => exact hst'.vr hd
          | r e' s' n' cs' =>
            obtain ⟨ws, k1, k2⟩ := hd
            exact ⟨ws, ownsRow_keep (fun b hb => hkeep b (h9.2 k _ u b hk rfl hu hb)) k1, hst'.vrs k2⟩
        exact ((e1.tk off).app (DRs.ofV (hst'.vrs hvy.1))).app (e1.drop (off + i.size))
      · refine ⟨fun k k' x y u v b hx hy rx ry hu hv hb hb' => ?_, fun k x u b hx rx hu hb => ?_⟩
        · obtain ⟨q1, q2⟩ := hold k x hx rx
          obtain ⟨q3, q4⟩ := hold k' y hy ry
          exact h9.1 k k' x y u v b q1 q3 rx ry (by rw [← q2]; exact hu) (by rw [← q4]; exact hv) hb hb'
        · obtain ⟨q1, q2⟩ := hold k x hx rx
          exact h9.2 k x u b q1 rx (by rw [← q2]; exact hu) hb)
  have hA : (fun j => if j = id then A id else A j) = A := by
    funext j
    by_cases hj : j = id
    · rw [if_pos hj, hj]
    · rw [if_neg hj]
  rw [hA] at hpush
  refine ⟨undef, w', A, .inr ⟨rfl, ?_⟩, hpush.1, by simp [VR], hpush.2⟩
  unfold execOp
  rw [ho]
  have hsz : (a.eval y).cells.size = i.size := by rw [← Array.length_toList]; omega
  simp only [h4, Instr.storeAt, Instr.sureAddr, storeVar, sizeOf, typeInfo, Sem.run_bind, Sem.run_pure, Result.andThen_ok, run_program, hi, hsz, ne_eq, not_true_eq_false, if_false, hst]
end
/-! ### a row that owns rows, only read from here on -/
section
variable {R F : Nat → Prop} {A : Nat → Value} {H : List AO} {w : World} {P : Program} {m N : Nat} {e : Env} {a : Act} {K : Env → List AO → Prop} {o : Oper} {ops : Array Oper} {rest : List Oper} {id n : Nat}
def dfz (id n : Nat) : DV → AV
  | .v x => frzV id n .any x
  | .r _ s k cells => .row s k false (frzVs id n .any cells)
theorem Inv.frzD {et : TypeId} {size : Nat} {nn : Bool} {cells : List DV} (hH : H[id]? = some (.dp et size n nn cells)) (hi : Inv R F A H w) (he : EnvOk R A H w N e a) :
    ∃ R', Inv R' F A (frzH id n (.row size n false (cells.map (dfz id n))) H 0) w ∧ EnvOk R' A (frzH id n (.row size n false (cells.map (dfz id n))) H 0) w N (frzE id n (.row size n false (cells.map (dfz id n))) e) a ∧
      Stp H.length R F A H w R' A (frzH id n (.row size n false (cells.map (dfz id n))) H 0) w := by
  let R' : Nat → Prop := fun b => R b ∨ foot w (A id) (.dp et size n nn cells) b
  let r : AV := .row size n false (cells.map (dfz id n))
  have hr : ∀ b, R b → R' b := fun b h => .inl h
  have hany : ∀ x c, VR R A H w x c → VR R' A (frzH id n r H 0) w x c := fun x c => VR.mono hr (fun _ _ => rfl) frz_ext x c
  have hrow : ∀ c, VR R A H w (.own id n) c → VR R' A (frzH id n r H 0) w r c := by
    intro c h
    simp only [r, VR] at h ⊢
    obtain ⟨o, h1, h2, h3⟩ := h
    rw [hH] at h1
    cases h1
    have h4 := (h3.resolve_left (by simp)).2.2 rfl
    obtain ⟨vs, h5, h6, h7, _⟩ := hi.obj id _ hH
    have key : ∀ {xs : List DV} {us : List Value}, (∀ (j : Nat) x u b, xs[j]? = some x → x.isR = true → us[j]? = some u → blk u = some b → R' b) → DRs R A H w xs us → VRs R' A (frzH id n r H 0) w (xs.map (dfz id n)) us := by
      intro xs
      induction xs with
      | nil => intro us _ h; cases us <;> simp_all [DRs, VRs]
      | cons x xs ih =>
        intro us hf h
        cases us with
        | nil => simp [DRs] at h
        | cons u us =>
          simp only [DRs] at h
          simp only [List.map_cons, VRs]
          refine ⟨?_, ih (fun j x u b q1 q2 q3 q4 => hf (j + 1) x u b (by simpa using q1) q2 (by simpa using q3) q4) h.2⟩
          cases x with
          | v x => exact VR.frz hany (fun _ _ => by simp [VR]) x u h.1
          | r e' s' k' cs' =>
            obtain ⟨ws, q1, q2⟩ := h.1
            have q3 : VRs R' A (frzH id n r H 0) w (frzVs id n .any cs') ws := VRs.frz hany (fun _ _ => by simp [VR]) _ _ q2
            simp only [dfz, VR]
            rcases q1.2 with ⟨h9, h10⟩ | ⟨g, cap, cur, rfl, hb, hg, hnc, _⟩
            · have hv0 : ws = [] := List.eq_nil_of_length_eq_zero (by have := q1.1; simpa [h10] using this)
              subst hv0
              exact .inl ⟨h9, h10, List.eq_nil_of_length_eq_zero (by simpa using q3.length), trivial⟩
            · exact .inr ⟨_, cap, ws, rfl, fun _ => ⟨hf 0 _ _ g rfl rfl rfl rfl, rfl⟩, hnc, q1.1, q3, cells_slice (n := k') (m := 0) q1⟩
    have h8 : VRs R' A (frzH id n r H 0) w (cells.map (dfz id n)) vs := key (fun j x u b q1 q2 q3 q4 => .inr (dp_foot h5 q1 q2 q3 q4)) h6
    rw [← h4] at h5 h7
    rcases h5.2 with ⟨h9, h10⟩ | ⟨g, cap, cur, rfl, hb, hg, hnc, _⟩
    · have hv0 : vs = [] := List.eq_nil_of_length_eq_zero (by have := h5.1; simpa [h10] using this)
      subst hv0
      exact .inl ⟨h9, h10, List.eq_nil_of_length_eq_zero (by simpa using h8.length), trivial⟩
    · refine .inr ⟨_, cap, vs, rfl, fun _ => ⟨.inr (.inl ?_), rfl⟩, hnc, h5.1, h8, cells_slice (n := n) (m := 0) h5⟩
      rw [← h4]; rfl
  have hV := VR.frz (id := id) (n := n) (A := A) (H := H) (w := w) (r := r) hany hrow
  have hVs := VRs.frz (id := id) (n := n) (A := A) (H := H) (w := w) (r := r) hany hrow
  have hst : Stp H.length R F A H w R' A (frzH id n r H 0) w := ⟨hr, fun _ _ => rfl, frz_ext, rfl, rfl, rfl, Nat.le_refl _⟩
  have hget : ∀ i o, (frzH id n r H 0)[i]? = some o → (i = id ∧ o = .gone) ∨ (i ≠ id ∧ ∃ o0, H[i]? = some o0 ∧ o = frzO id n r o0) := by
    intro i o ho
    rw [frzH_get, Nat.zero_add] at ho
    obtain ⟨o0, h1, h2⟩ := Option.map_eq_some_iff.1 ho
    by_cases hid : i = id
    · rw [if_pos hid] at h2; exact .inl ⟨hid, h2.symm⟩
    · rw [if_neg hid] at h2; exact .inr ⟨hid, o0, h1, h2.symm⟩
  have hng : ∀ o0, frzO id n r o0 ≠ .gone → o0 ≠ .gone := fun o0 h k => h ((frzO_same o0).2.2.2 k)
  refine ⟨R', ⟨?_, ?_, hi.flt, ?_, ?_, ?_, hi.tab.mono hr (fun _ _ => rfl)⟩, ?_, hst⟩
  · rintro b (h | h)
    · exact hi.rf b h
    · exact (hi.own id _ b hH (by simp) h).2
  · rintro b (h | h)
    · exact hi.rlt b h
    · exact OInv.lt (by simp) (hi.obj id _ hH) h
  · intro i o b ho hg hb
    rcases hget i o ho with ⟨_, rfl⟩ | ⟨hne, o0, h1, rfl⟩
    · exact absurd rfl hg
    · have hb := frzO_foot.1 hb
      have := hi.own i o0 b h1 (hng o0 hg) hb
      refine ⟨?_, this.2⟩
      rintro (h | h)
      · exact this.1 h
      · exact hne (hi.inj i id o0 _ b h1 hH (hng o0 hg) (by simp) hb h)
  · intro i j o p b ho hp hgo hgp hb hc
    rcases hget i o ho with ⟨_, rfl⟩ | ⟨_, o0, h1, rfl⟩
    · exact absurd rfl hgo
    rcases hget j p hp with ⟨_, rfl⟩ | ⟨_, p0, h2, rfl⟩
    · exact absurd rfl hgp
    exact hi.inj i j o0 p0 b h1 h2 (hng o0 hgo) (hng p0 hgp) (frzO_foot.1 hb) (frzO_foot.1 hc)
  · intro i o ho
    rcases hget i o ho with ⟨_, rfl⟩ | ⟨_, o0, h1, rfl⟩
    · trivial
    have hob := hi.obj i o0 h1
    cases o0 with
    | gone => trivial
    | nil e s => exact hob
    | sl e2 size2 n2 nn2 cells2 => obtain ⟨vs, q1, q2, q3⟩ := hob; exact ⟨vs, q1, hVs _ _ q2, q3⟩
    | bx e2 cells2 => obtain ⟨g, vs, q1, q2, q3⟩ := hob; exact ⟨g, vs, q1, q2, hVs _ _ q3⟩
    | dp e2 size2 n2 nn2 cells2 => obtain ⟨vs, q1, q2, q3, q4⟩ := hob; exact ⟨vs, q1, DRs.frz hV hVs q2, q3, q4.frz⟩
  · refine ⟨he.defers, he.size, ?_⟩
    intro p hp
    have : ∀ (e : Env), p ∈ frzE id n r e → ∃ x, (p.1, x) ∈ e ∧ p.2 = frzV id n r x := by
      intro e
      induction e with
      | nil => intro h; simp [frzE] at h
      | cons q e ih =>
        obtain ⟨t, x⟩ := q
        intro h
        simp only [frzE] at h
        rcases List.mem_cons.1 h with rfl | h
        · exact ⟨x, by simp, rfl⟩
        · obtain ⟨y, h1, h2⟩ := ih h
          exact ⟨y, List.mem_cons_of_mem _ h1, h2⟩
    obtain ⟨x, h1, h2⟩ := this e hp
    obtain ⟨c, k1, k2⟩ := he.at_ _ h1
    exact ⟨c, k1, by rw [h2]; exact hV x c k2⟩
end
/-! ### rows of elements that own the elements' rows -/
/-- A cell, told as one that owns its row. -/
def deepV (et : TypeId) : AV → DV
  | .row s n false cells => .r et s n cells
  | x => .v x
def DE {α : Type} [Enc α] (et : TypeId) (xs : List α) : List DV := (Enc.cells xs).map (deepV et)
section
variable {l : Bool} {ρ : List Nat} {H : List AO}
theorem deepV_noid (et : TypeId) (x : AV) : (deepV et x).noid = noid x := by
  cases x with
  | row s n nn cells => cases nn <;> simp [deepV, DV.noid, noid]
  | _ => rfl
theorem deepV_ren (et : TypeId) (f : Nat → Nat) (x : AV) (h : noid x = true) : renD f (deepV et x) = deepV et x := by
  cases x with
  | row s n nn cells =>
    cases nn
    · simp only [noid] at h
      simp only [deepV, renD, renVs_noids f cells h]
    · simp only [deepV, renD, renV_noid f _ h]
  | _ => simp only [deepV, renD, renV_noid f _ h]
theorem Sub.self : ∀ x : AV, noid x = true → Sub l ρ H x x
  | .any, _ => .any
  | .lit _, _ => .lit
  | .row s n nn cells, h => .row id (.same (by simpa only [noid] using h))
  | .rptr cells, h => .rptr (.same (by simpa only [noid] using h))
  | .agg cells, h => .agg (.same (by simpa only [noid] using h))
  | .tup cells, h => .tup (.same (by simpa only [noid] using h))
  | .fn g cells, h => .fn (.same (by simpa only [noid] using h))
  | .own _ _, h => by simp [noid] at h
  | .optr _ _ _, h => by simp [noid] at h
  | .ptr _ _, h => by simp [noid] at h
theorem DSubs.deep (et : TypeId) : ∀ cs : List AV, noids cs = true → DSubs l ρ H (cs.map (deepV et)) cs
  | [], _ => .nil
  | x :: cs, h => by
    simp only [noids, Bool.and_eq_true] at h
    have ih := DSubs.deep et cs h.2
    simp only [List.map_cons]
    cases x with
    | row s n nn cells =>
      cases nn
      · exact .r (.same (by simpa only [noid] using h.1)) ih
      · exact .v (Sub.self _ h.1) ih
    | _ => exact .v (Sub.self _ h.1) ih
theorem all_deep (et : TypeId) : ∀ cs : List AV, noids cs = true → (cs.map (deepV et)).all DV.noid = true
  | [], _ => rfl
  | x :: cs, h => by
    simp only [noids, Bool.and_eq_true] at h
    simp only [List.map_cons, List.all_cons, deepV_noid, h.1, all_deep et cs h.2, Bool.and_self]
theorem ren_deep (et : TypeId) (f : Nat → Nat) : ∀ cs : List AV, noids cs = true → (cs.map (deepV et)).map (renD f) = cs.map (deepV et)
  | [], _ => rfl
  | x :: cs, h => by
    simp only [noids, Bool.and_eq_true] at h
    simp only [List.map_cons, deepV_ren et f x h.1, ren_deep et f cs h.2]
end
section
variable {α : Type} [Enc α] {l : Bool} {ρ : List Nat} {H : List AO}
theorem DE_nil (et : TypeId) : DE et ([] : List α) = [] := rfl
theorem DE_append (et : TypeId) (xs ys : List α) : DE et xs ++ DE et ys = DE et (xs ++ ys) := by unfold DE; rw [← Enc.cells_append, List.map_append]
theorem DE_length (et : TypeId) (xs : List α) : (DE et xs).length = xs.length * Enc.sz α := by unfold DE; rw [List.length_map, Enc.cells_length]
theorem DE_noid (et : TypeId) (xs : List α) : (DE et xs).all DV.noid = true := all_deep et _ (Enc.cells_noids xs)
theorem DE_ren (et : TypeId) (f : Nat → Nat) (xs : List α) : (DE et xs).map (renD f) = DE et xs := ren_deep et f _ (Enc.cells_noids xs)
/-- A row that owns its elements' rows, handed to one that reads it. -/
theorem Sub.lendDE {id n n0 m s : Nat} {e et : TypeId} {nn nn' : Bool} {xs : List α} {cells0 : List AV} (hl : l = true) (hH : H[id]? = some (.dp e s m nn' (DE et xs))) (hm : n = m) (hn : n = n0) (hnn : nn = true → nn' = true) (hρ : id ∉ ρ) (hc : Enc.cells xs = cells0) :
    Sub l ρ H (.own id n) (.row s n0 nn cells0) := by
  subst hn; subst hc; exact .lendD hl hH hm hnn hρ (DSubs.deep et _ (Enc.cells_noids xs))
theorem SubO.dpE {e et : TypeId} {s n n0 : Nat} {nn nn0 : Bool} {xs : List α} {cells cells0 : List DV} (hn : n = n0) (hnn : nn0 = true → nn = true) (hc : cells = cells0) (hid : cells0 = DE et xs) : SubO l ρ H (.dp e s n nn cells) (.dp e s n0 nn0 cells0) := by
  subst hn; subst hc; subst hid; exact .dp hnn (DE_noid et xs)
end
theorem awset11_ {α : Type} [Enc α] : (∀ (et : TypeId) (xs ys : List α), DE et xs ++ DE et ys = DE et (xs ++ ys)) ∧ (∀ (et : TypeId) (f : Nat → Nat) (xs : List α), (DE et xs).map (renD f) = DE et xs) ∧ (∀ (et : TypeId) (xs : List α), (DE et xs).length = xs.length * Enc.sz α) :=
  ⟨DE_append, DE_ren, DE_length⟩
theorem awset12_ : (∀ (f : Nat → Nat) (e : TypeId) (s n : Nat) (nn : Bool) (cells : List DV), renO f (.dp e s n nn cells) = .dp e s n nn (cells.map (renD f))) ∧ (∀ (e : TypeId) (s n : Nat) (nn : Bool) (cells : List DV), norowO (.dp e s n nn cells) = cells.all DV.norow) := ⟨fun _ _ _ _ _ _ => rfl, fun _ _ _ _ _ => rfl⟩
/-- Behind the elements' rows lie no rows. -/
class EncD (α : Type) [Enc α] : Prop where
  nd : ∀ (et : TypeId) (x : α), ((Enc.en x).map (deepV et)).all DV.norow = true
theorem DE_norow {α : Type} [Enc α] [EncD α] (et : TypeId) : ∀ xs : List α, (DE et xs).all DV.norow = true
  | [] => rfl
  | x :: xs => by
    have ih := DE_norow et xs
    unfold DE at ih ⊢
    simp only [Enc.cells, List.map_append, List.all_append, EncD.nd, ih, Bool.and_self]
theorem awset13_ {α : Type} [Enc α] [EncD α] : ∀ (et : TypeId) (xs : List α), (DE et xs).all DV.norow = true := DE_norow
/-! ### writes into the elements of a row that owns their rows -/
section
variable {α : Type} [Enc α]
theorem DE_cons (et : TypeId) (x : α) (xs : List α) : DE et (x :: xs) = (Enc.en x).map (deepV et) ++ DE et xs := by
  unfold DE; simp only [Enc.cells, List.map_append]
theorem DE_setAt {et : TypeId} {p : Nat} {y : DV} {x' : α} (hp : p < Enc.sz α) : ∀ (xs : List α) (i : Nat) (h : i < xs.length), (Enc.en x').map (deepV et) = ((Enc.en xs[i]).map (deepV et)).set p y →
    (DE et xs).set (i * Enc.sz α + p) y = DE et (xs.set i x')
  | [], i, h, _ => by simp at h
  | x :: xs, 0, h, k => by
    simp only [List.getElem_cons_zero] at k
    simp only [List.set_cons_zero, DE_cons, k, Nat.zero_mul, Nat.zero_add]
    rw [List.set_append_left _ _ (by rw [List.length_map, Enc.len]; exact hp)]
  | x :: xs, i + 1, h, k => by
    simp only [List.getElem_cons_succ] at k
    have e1 : (i + 1) * Enc.sz α + p = ((Enc.en x).map (deepV et)).length + (i * Enc.sz α + p) := by rw [List.length_map, Enc.len, Nat.add_mul, Nat.one_mul]; omega
    rw [List.set_cons_succ, DE_cons, DE_cons, e1, List.set_append_right _ _ (Nat.le_add_right _ _), Nat.add_sub_cancel_left, DE_setAt hp xs i (by simpa using h) k]
theorem rd_get {xs : List α} {q : Int} (h1 : q < xs.length) (h2 : q.toNat < xs.length) : Enc.rd xs q = xs[q.toNat] := by
  unfold Enc.rd; rw [List.getD_eq_getElem?_getD, List.getElem?_eq_getElem h2, Option.getD_some]
theorem DE_put {et : TypeId} {p : Nat} {y : DV} {xs : List α} {q : Int} {x' : α} (h0 : 0 ≤ q) (h1 : q < xs.length) (hp : p < Enc.sz α)
    (hx : (Enc.en x').map (deepV et) = ((Enc.en (Enc.rd xs q)).map (deepV et)).set p y) : (DE et xs).set (q.toNat * Enc.sz α + p) y = DE et (xs.set q.toNat x') := by
  have h2 : q.toNat < xs.length := by omega
  rw [rd_get h1 h2] at hx
  exact DE_setAt hp xs _ h2 hx
theorem DE_get {et : TypeId} {p : Nat} {y : AV} {xs : List α} {q : Int} (h0 : 0 ≤ q) (h1 : q < xs.length) (hx : (Enc.en (Enc.rd xs q))[p]? = some y) : (DE et xs)[q.toNat * Enc.sz α + p]? = some (deepV et y) := by
  have := Enc.get h0 h1 hx
  rw [List.getElem?_drop, Nat.add_zero] at this
  unfold DE
  rw [List.getElem?_map, this]
  rfl
end
section
variable {P : Program} {m N : Nat} {e e' : Env} {H H' : List AO} {K : Env → List AO → Prop} {o : Oper} {ops : Array Oper} {rest : List Oper} {x y : Operand} {v' : AV}
theorem AYield.indexOwnD {o : Oper} {t el et : TypeId} {x ix : Operand} {i : TypeInfo} {id n m size : Nat} {nn : Bool} {cells : List DV} {k : IntKind} {q : Int} (ho : o.op = .indexAddr t x ix)
    (hu : P.underlying t = some (.slice el)) (hi : P.info? el = some i) (hx : ev e x = .own id n) (hH : H[id]? = some (.dp et size m nn cells)) (hn : n = m)
    (hq : ev e ix = .lit (.int k q)) (h0 : 0 ≤ q) (h1 : q < n) : AYield P N o e H (.optr id n (q.toNat * i.size)) := by
  subst hn
  intro R F A w a hinv he
  have hvx := he.ev x
  have hvq := he.ev ix
  rw [hx] at hvx
  rw [hq] at hvq
  simp only [VR] at hvx hvq
  obtain ⟨o1, h2, _, h6⟩ := hvx
  rw [hH] at h2
  cases h2
  have h6 := (h6.resolve_left (by simp)).2.2 rfl
  obtain ⟨vs, h7, h8, h9, _⟩ := hinv.obj id _ hH
  rcases h7.2 with ⟨h10, h11⟩ | ⟨g, cap, cur, h10, _⟩
  · omega
  refine ⟨.pointer (some ⟨g, q.toNat * i.size, none⟩), ?_, ?_⟩
  · intro w; unfold execOp
    rw [ho]
    simp only [h6, h10, hvq, Instr.indexAt, asIntOf, run_underlying hu, Sem.run_bind, Sem.run_pure, Result.andThen_ok, sizeOf, typeInfo, hi, run_program]
    rw [if_pos ⟨h0, h1⟩]
    simp only [Sem.run_bind, Sem.run_pure, Result.andThen_ok, run_program, hi, Addr.add_mid, Nat.zero_add]
  · simp only [VR]
    exact ⟨_, g, hH, rfl, .inr ⟨rfl, Nat.le_refl _, fun _ => ⟨n, cap, h10⟩⟩⟩
/-- How many elements. -/
theorem Y.lnD {t el et : TypeId} {id n m size : Nat} {nn : Bool} {cells : List DV} (hu : P.underlying t = some (.slice el)) (ho : o.op = .call { callee := .builtin .len, args := #[x], argTypes := #[t] } := by exact rfl)
    (hx : ev e x = .own id n := by exact rfl) (hH : H[id]? = some (.dp et size m nn cells) := by exact rfl) (hn : n = m := by exact rfl) : AYield P N o e H (.lit (.int .i64 n)) := by
  subst hn
  intro R F A w a hinv he
  have hvx := he.ev x
  rw [hx] at hvx
  simp only [VR] at hvx
  obtain ⟨o1, h2, _, h6⟩ := hvx
  rw [hH] at h2
  cases h2
  have h60 := (h6.resolve_left (by simp)).2.2 rfl
  obtain ⟨vs, h7, _⟩ := hinv.obj id _ hH
  refine ⟨.int .i64 n, fun W => ?_, by simp only [VR]⟩
  unfold execOp
  rw [ho]
  rcases h7.2 with ⟨h10, h11⟩ | ⟨g, cap, cur, h10, _⟩
  · subst h11
    simp [resolve, invoke, builtin, h60, h10, Builtin.len_, run_underlying hu, goInt]
  · simp [resolve, invoke, builtin, h60, h10, Builtin.len_, run_underlying hu, goInt]
theorem rd_set {α : Type} [Enc α] {xs : List α} {q : Int} {y : α} (h0 : 0 ≤ q) (h1 : q < xs.length) : Enc.rd (xs.set q.toNat y) q = y := by
  have h2 : q.toNat < xs.length := by omega
  unfold Enc.rd; rw [List.getD_eq_getElem?_getD, List.getElem?_set_self h2, Option.getD_some]
theorem set_cut {γ : Type} (l : List γ) (i : Nat) (a : γ) (h : i < l.length) : l.take i ++ [a] ++ l.drop (i + 1) = l.set i a := by
  rw [List.set_eq_take_append_cons_drop, if_pos h, List.append_assoc]; rfl
/-- An element's place in a row that owns its elements' rows. -/
theorem Y.ixoD {t el et : TypeId} {id n n' size sz by_ : Nat} {zv : Value} {nn : Bool} {cells : List DV} {k : IntKind} {q : Int} (hu : P.underlying t = some (.slice el)) (ty : Ty P el sz by_ zv) (h0 : 0 ≤ q) (h1 : q < n) (ho : o.op = .indexAddr t x y := by exact rfl)
    (hx : ev e x = .own id n := by exact rfl) (hq : ev e y = .lit (.int k q) := by exact rfl) (hH : H[id]? = some (.dp et size n' nn cells) := by exact rfl) (hn : n = n' := by exact rfl) : AYield P N o e H (.optr id n (q.toNat * sz)) := by
  obtain ⟨i, hi, h2, _⟩ := ty
  subst h2
  exact AYield.indexOwnD ho hu hi hx hH hn hq h0 h1
/-- A value is put into a cell of an element. -/
theorem S.stDE {α : Type} [Enc α] {t et et' : TypeId} {id off n n' size by_ : Nat} {zv : Value} {nn : Bool} {xs : List α} {vy : AV} {q : Int} (p : Nat) (x' : α) (ty : Ty P t 1 by_ zv) (h0 : 0 ≤ q) (h1 : q < xs.length) (ho : o.op = .store t x y := by exact rfl) (hx : ev e x = .optr id n off := by exact rfl) (hy : ev e y = vy := by exact rfl)
    (hoff : off = q.toNat * Enc.sz α + p := by exact rfl) (hH : H[id]? = some (.dp et size n' nn (DE et' xs)) := by exact rfl) (hn : n = n' := by exact rfl) (hp : p < Enc.sz α := by decide) (hok : vy.one = true := by exact rfl)
    (hE : (Enc.en x').map (deepV et') = ((Enc.en (Enc.rd xs q)).map (deepV et')).set p (.v vy) := by exact rfl)
    (hH' : H.set id (.dp et size n' nn (DE et' (xs.set q.toNat x'))) = H' := by exact rfl) : AStep P N o e H (.lit undef) H' := by
  obtain ⟨i, hi, h2, _⟩ := ty
  subst hy; subst hH'; subst hoff
  have hl : q.toNat * Enc.sz α + p < (DE et' xs).length := by
    rw [DE_length]
    have h3 : q.toNat + 1 ≤ xs.length := by omega
    have := Nat.mul_le_mul_right (Enc.sz α) h3
    rw [Nat.add_mul, Nat.one_mul] at this
    omega
  have hc : cellsA (ev e y) = [ev e y] := by cases he : ev e y <;> simp_all [cellsA, AV.one]
  have hk : okc (ev e y) = true := by cases he : ev e y <;> simp_all [okc, AV.one]
  have := AStep.storeD (N := N) ho hi hx hH hn hk (by rw [hc, h2]; first | done | rfl) (by rw [h2]; omega)
  rw [hc, h2] at this
  simp only [List.map_cons, List.map_nil] at this
  rw [set_cut _ _ _ hl, DE_put h0 h1 hp hE] at this
  exact this
/-- The row that a cell of an element owns, as an object by itself. -/
theorem L.tkE {α : Type} [Enc α] {et et' : TypeId} {size s' n m' : Nat} {nn : Bool} {xs : List α} {cs : List AV} {q : Int} (id p : Nat) (h0 : 0 ≤ q) (h1 : q < xs.length) (h : AList P m N ops rest e H' K)
    (hH : H[id]? = some (.dp et size n nn (DE et' xs)) := by exact rfl) (hc : (Enc.en (Enc.rd xs q))[p]? = some (.row s' m' false cs) := by exact rfl)
    (hH' : H.set id (.dp et size n nn ((DE et' xs).set (q.toNat * Enc.sz α + p) (.v (.own H.length m')))) ++ [.sl et' s' m' false cs] = H' := by exact rfl) : AList P m N ops rest e H K := by
  subst hH'
  exact AList.gh (Gh.take hH (DE_get h0 h1 hc)) h
theorem vpre_at0 (cells : List DV) (i : Nat) (y : AV) (h : i < cells.length) : (vpre ((cells.set i (.v y)).drop i))[0]? = some y := by
  rw [List.drop_eq_getElem_cons (by rw [List.length_set]; exact h)]
  simp [vpre]
theorem S.ldE {t et : TypeId} {id n off size : Nat} {d : TypeDesc} {nn : Bool} {cells : List DV} {v : AV} (hu : P.underlying t = some d) (hl : off < cells.length) (ho : o.op = .load t x := by exact rfl) (hd : d.isRow = false := by exact rfl) (hx : ev e x = .optr id n off := by exact rfl)
    (hH : H[id]? = some (.dp et size n nn (cells.set off (.v v))) := by exact rfl) : AStep P N o e H v H :=
  AStep.load1 ho hu hd (by rw [hx]; simp only [mem, hH, if_true]) (vpre_at0 cells off v hl)
theorem DE_lt {α : Type} [Enc α] {et : TypeId} {xs : List α} {q : Int} {p : Nat} (h0 : 0 ≤ q) (h1 : q < xs.length) (hp : p < Enc.sz α) : q.toNat * Enc.sz α + p < (DE et xs).length := by
  rw [DE_length]
  have h3 : q.toNat + 1 ≤ xs.length := by omega
  have := Nat.mul_le_mul_right (Enc.sz α) h3
  rw [Nat.add_mul, Nat.one_mul] at this
  omega
/-- The row belongs to the element again. -/
theorem L.gvE {α : Type} [Enc α] {et et' : TypeId} {size s' n m' : Nat} {nn nn' : Bool} {xs : List α} {cs : List AV} {q : Int} (id j p : Nat) (x' : α) (h0 : 0 ≤ q) (h1 : q < xs.length) (h : AList P m N ops rest e H' K)
    (hH : H[id]? = some (.dp et size n nn ((DE et' xs).set (q.toNat * Enc.sz α + p) (.v (.own j m')))) := by exact rfl) (hj : H[j]? = some (.sl et' s' m' nn' cs) := by exact rfl) (hp : p < Enc.sz α := by decide)
    (hE : (Enc.en x').map (deepV et') = ((Enc.en (Enc.rd xs q)).map (deepV et')).set p (.r et' s' m' cs) := by exact rfl)
    (hH' : (H.set id (.dp et size n nn (DE et' (xs.set q.toNat x')))).set j .gone = H' := by exact rfl) : AList P m N ops rest e H K := by
  subst hH'
  have g := Gh.give (N := N) (e := e) hH hj (i := q.toNat * Enc.sz α + p) (by rw [List.getElem?_set_self (DE_lt h0 h1 hp)])
  rw [List.set_set, DE_put h0 h1 hp hE] at g
  exact AList.gh g h
end
end Go.Proofs.YtdaneldckdjjoaaDoorA
