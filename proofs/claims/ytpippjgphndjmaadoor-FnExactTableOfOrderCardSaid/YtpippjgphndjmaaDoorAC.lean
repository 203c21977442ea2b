-- The session's own: the walk's logic, second part. Lean checks it.
import Derived.Test.YtpippjgphndjmaaDoorAA
set_option linter.unusedVariables false
set_option linter.unusedSimpArgs false
namespace Go.Proofs.YtpippjgphndjmaaDoorA
open Go Go.RowKit
open Go.Proofs.YtpippjgphndjmaaDoorW.PrintWords (rd bt shl shr)
open Go.Proofs.YtpippjgphndjmaaDoorW.PrintLast (wpAnyLast wpAnyLast_take wpAnyLast_all wpAnyLast_done wp_region_last Region.closedB Region.lastB)
/-! ### operations, in whatever region they stand -/
def AOp (P : Program) (m N : Nat) (o : Oper) (e : Env) (H : List AO) (K : Env → List AO → Prop) : Prop :=
  ∀ R F A w a (G : Act → World → Prop) (Q : Exit → Act → World → Prop), Inv R F A H w → EnvOk R A H w N e a →
    (∀ a' w' e' H' R' A', K e' H' → Inv R' F A' H' w' → EnvOk R' A' H' w' N e' a' → Stp m R F A H w R' A' H' w' → G a' w') → o.wp P a w G Q

section
variable {P : Program} {m N : Nat} {e : Env} {H : List AO} {K : Env → List AO → Prop} {o : Oper}

theorem AOp.step {v : AV} {H' : List AO} (hs : AStep P N o e H v H') (hn : K (put N e o.dst v) H') : AOp P m N o e H K := by
  intro R F A w a G Q hi he hG
  obtain ⟨c, w', A', hrun, hi', hv, hst⟩ := hs R F A w a hi he
  have hnext : G (a.put o.dst c) w' := hG _ _ _ _ _ _ hn hi' ((he.stp hst).put o.dst hv) hst.any
  unfold Oper.wp
  rcases hrun with hrun | ⟨rfl, hrun⟩
  · rw [hrun]; exact hnext
  · rw [hrun]; exact hnext

theorem AList.opc {ops : Array Oper} {rest : List Oper} (hw : wantA ops e o true) (h : AOp P m N o e H (fun e' H' => AList P m N ops rest e' H' K)) : AList P m N ops (o :: rest) e H K := by
  intro R F A w a G hi he hG
  unfold wpList
  rw [if_pos (by rw [wanted_of hw he])]
  refine .inl (h R F A w a _ _ hi he ?_)
  intro a' w' e' H' R' A' h1 h2 h3 h4
  exact h1 R' F A' w' a' G h2 h3 fun a'' w'' e'' H'' R'' A'' k1 k2 k3 k4 => hG a'' w'' e'' H'' R'' A'' k1 k2 k3 (h4.trans k4)

theorem enters {f : FuncId} {fn : Func} (hf : P.funcs[f]? = some fn) (hname : (fn.name == "runtime.NumGoroutine") = false) (hb : fn.body.isSome = true) (args : Array Value) (w : World) :
    (callFunc f args).run P w = .ok (.enter f args) w := by
  have hb' : fn.body.isNone = false := by simpa using hb
  unfold callFunc
  simp only [Sem.run_bind, run_program, Result.andThen_ok, hf, hname, hb', Bool.false_eq_true, if_false, Sem.run_pure]

theorem evs_append {R A w a} (he : EnvOk R A H w N e a) {xs : List Operand} {caps : List AV} {vs : List Value} (h : VRs R A H w caps vs) : VRs R A H w (xs.map (ev e) ++ caps) (xs.map a.eval ++ vs) :=
  (evs_ok he xs).append h

/-- A call: its objects are a part of the caller's, under the callee's numbers; what else there is is lent (l = true) or kept apart. -/
theorem AOp.call {l : Bool} {x : Operand} {xs : List Operand} {ts : Array TypeId} {f : FuncId} {fn : Func} {caps avs0 : List AV} {H0 : List AO} {Q0 : AV → List AO → Prop} (ρ : List Nat)
    (ho : o.op = .call { callee := .value x, args := xs.toArray, argTypes := ts }) (hx : ev e x = .fn f caps) (hf : P.funcs[f]? = some fn) (hname : (fn.name == "runtime.NumGoroutine") = false) (hb : fn.body.isSome = true)
    (hc : ACalls P f avs0 H0 Q0) (hnd : ρ.Nodup) (hs : SubH l ρ H ρ H0) (ha : Subs l ρ H (xs.map (ev e) ++ caps) avs0)
    (hn : ∀ r H', Q0 r H' → (l = false ∨ (norow r = true ∧ H'.all norowO = true)) ∧ K (put N e o.dst (renV (rho ρ H.length) r)) (mergeH ρ H H')) : AOp P m N o e H K := by
  intro R F A w a G Q hi he hG
  have hvx := he.ev x
  rw [hx] at hvx
  simp only [VR] at hvx
  obtain ⟨vs, hvs, hfx⟩ := hvx
  have hrun : (execOp a.eval o).run P w = .ok (.enter f (xs.map a.eval ++ vs).toArray) w := by
    have := enters hf hname hb (xs.map a.eval ++ vs).toArray w
    unfold execOp
    rw [ho]
    simp only [resolve, hfx, Deferred.ofValue, invoke, Sem.run_bind, Sem.run_pure, Result.andThen_ok, List.map_toArray, Array.empty_append, List.append_toArray, this, List.nil_append]
  have hi0 := hi.part hnd hs
  have hargs : VRs (RL l R ρ A H) (fun j => A (ρ.getD j 0)) H0 w avs0 (xs.map a.eval ++ vs) :=
    Subs.ok hi (fun b hb => .inl hb) (fun hl i o b h1 h2 h3 h4 => .inr ⟨hl, i, o, h1, h2, h3, h4⟩) hs.hA ha (evs_append he hvs)
  have hcall := hc _ _ _ w _ hi0 hargs
  unfold Oper.wp
  rw [hrun, Oper.upon_enter]
  refine hcall.mono ?_
  rintro x w' ⟨v, r, H', R', A', rfl, hq, hi', hv, hst⟩
  obtain ⟨hr1, hr2⟩ := hn r H' hq
  obtain ⟨R2, A2, h1, h2, h3, _⟩ := part_back hi hnd hs hi' hst hv hr1
  exact hG _ _ _ _ _ _ hr2 h1 ((he.stp h3).put o.dst h2) h3.any

def lookS : Env → Nat → Option AV
  | [], _ => none
  | (t, v) :: r, n => if t = n then some v else lookS r n

theorem lookS_mem : ∀ (e : Env) (t : Nat) (x : AV), lookS e t = some x → (t, x) ∈ e
  | [], _, _, h => by simp [lookS] at h
  | (s, v) :: r, t, x, h => by
    unfold lookS at h
    by_cases hb : s = t
    · rw [if_pos hb] at h; cases h; subst hb; simp
    · rw [if_neg hb] at h; exact List.mem_cons_of_mem _ (lookS_mem r t x h)

inductive SubE (l : Bool) (ρ : List Nat) (H : List AO) (e : Env) : Env → Prop
  | nil : SubE l ρ H e []
  | cons {t x v e0} : lookS e t = some x → Sub l ρ H x v → SubE l ρ H e e0 → SubE l ρ H e ((t, v) :: e0)

theorem SubE.get {l ρ} : ∀ {e0 : Env}, SubE l ρ H e e0 → ∀ p ∈ e0, ∃ x, (p.1, x) ∈ e ∧ Sub l ρ H x p.2
  | _, .nil, p, hp => by simp at hp
  | _, .cons h1 h2 h3, p, hp => by
    rcases List.mem_cons.1 hp with rfl | hp
    · exact ⟨_, lookS_mem _ _ _ h1, h2⟩
    · exact SubE.get h3 p hp

/-- The same ground seen as a part of it: objects get other numbers, or are only read from here on. -/
theorem AWp.part {c : Code} {Q : Exit → Env → List AO → Prop} {e0 : Env} {H0 : List AO} (ρ : List Nat) (hnd : ρ.Nodup) (hs : SubH true ρ H ρ H0) (hm : ∀ j, j < m → j < H.length → ρ[j]? = some j)
    (he0 : SubE true ρ H e e0) (h : AWp P m N c e0 H0 Q) : AWp P m N c e H Q := by
  intro R F A w a hi he
  have hi0 := hi.part hnd hs
  have hFL : FL true F ρ A H = F := by funext b; simp [FL]
  rw [hFL] at hi0
  have hA := hs.hA (A := A)
  have he1 : EnvOk (RL true R ρ A H) (fun j => A (ρ.getD j 0)) H0 w N e0 a := by
    refine ⟨he.defers, he.size, fun p hp => ?_⟩
    obtain ⟨x, hx, hsub⟩ := he0.get p hp
    obtain ⟨c, h1, h2⟩ := he.at_ _ hx
    exact ⟨c, h1, Sub.ok hi (fun b hb => .inl hb) (fun hl i o b h1 h2 h3 h4 => .inr ⟨hl, i, o, h1, h2, h3, h4⟩) hA hsub h2⟩
  refine wp_mono (h _ F _ w a hi0 he1) ?_
  rintro x a' w' ⟨e', H', R', A', hq, hi', he', hst⟩
  refine ⟨e', H', R', A', hq, hi', he', ⟨fun b hb => hst.rr b (.inl hb), fun b hb => hst.keep b (hb.imp .inl id), ?_, hst.os, hst.tape, hst.output, hst.size⟩⟩
  intro i o hlt hio
  have hB := (List.getElem?_eq_some_iff.1 hio).1
  have hj := hm i hlt hB
  obtain ⟨o1, o0, h1, h2, h3⟩ := hs.get i i hj
  rw [hio] at h1; cases h1
  obtain ⟨s1, s2, s3⟩ := h3.same
  obtain ⟨p, k1, k2⟩ := hst.ext i o0 hlt h2
  refine ⟨p, k1, ?_⟩
  rcases k2 with k2 | ⟨k2, k3, k4⟩
  · exact .inl k2
  · exact .inr ⟨by omega, by rw [← k3, s2], fun e => by rw [k4 (by omega)]; simp [List.getD_eq_getElem?_getD, hj]⟩
end
/-! ### regions whose order is drawn -/
def onlyG (G : Act → World → Prop) : Exit → Act → World → Prop
  | .normal, a, w => G a w
  | _, _, _ => False

def AAny (P : Program) (m N : Nat) (ops : Array Oper) (fuel : Nat) (listed : Array Bool) (e : Env) (H : List AO) (K : Env → List AO → Prop) : Prop :=
  ∀ R F A w a (G : Act → World → Prop), Inv R F A H w → EnvOk R A H w N e a →
    (∀ a' w' e' H' R' A', K e' H' → Inv R' F A' H' w' → EnvOk R' A' H' w' N e' a' → Stp m R F A H w R' A' H' w' → G a' w') → wpAny P .any ops (onlyG G) fuel listed a w

section
variable {P : Program} {m N : Nat} {e : Env} {H : List AO} {K : Env → List AO → Prop} {ops : Array Oper} {fuel : Nat} {listed : Array Bool}

theorem Stp.heap {R F : Nat → Prop} {A : Nat → Value} {w w' : World} (m : Nat) (h : w'.heap = w.heap) (h1 : w'.os = w.os) (h2 : w'.tape = w.tape) (h3 : w'.output = w.output) : Stp m R F A H w R A H w' :=
  ⟨fun _ h => h, fun _ _ => by rw [h], Ext.refl m A H, h1, h2, h3, by rw [h]; exact Nat.le_refl _⟩

theorem Inv.heap {R F : Nat → Prop} {A : Nat → Value} {w w' : World} (hi : Inv R F A H w) (h : w'.heap = w.heap) (h1 : w'.os = w.os) (h2 : w'.tape = w.tape) (h3 : w'.output = w.output) : Inv R F A H w' :=
  ⟨hi.rf, fun b hb => by rw [h]; exact hi.rlt b hb, fun b hb => by rw [h]; exact hi.flt b hb, hi.own, hi.inj, fun i o ho => OInv.mono (F := F) (Stp.heap _ h h1 h2 h3) (fun b _ => by rw [h]) (hi.obj i o ho), hi.tab.mono (fun _ h => h) (fun _ _ => by rw [h])⟩

theorem AWp.regionD {id : Nat} {l : List Oper} {Q : Exit → Env → List AO → Prop} (hm : P.follows .mixedOrders = true) {sz : Nat} (hsz : l.length = sz)
    (h : AAny P m N l.toArray sz (Array.replicate sz false) e H (fun e' H' => Q .normal e' H')) : AWp P m N (.region id l.toArray true) e H Q := by
  subst hsz
  intro R F A w a hi he
  have h1 : (Code.region id l.toArray true).wp P (onlyG fun a' w' => Lift m Q R F A H w N .normal a' w') a w := by
    refine wp_region_any hm ?_
    have hst : Stp H.length R F A H w R A H { w with drawn := w.drawn + 1 } := Stp.heap _ rfl rfl rfl rfl
    simpa using h R F A { w with drawn := w.drawn + 1 } a _ (hi.heap rfl rfl rfl rfl) (he.stp hst) fun a' w' e' H' R' A' k1 k2 k3 k4 => ⟨e', H', R', A', k1, k2, k3, hst.any.trans k4⟩
  refine wp_mono h1 ?_
  intro x a' w' hq
  cases x <;> first | exact hq | exact hq.elim

theorem AAny.done (hr : Region.ready .any ops listed = []) (h : K e H) : AAny P m N ops fuel listed e H K :=
  fun R F A w a G hi he hG => wpAny_done hr (hG a w e H R A h hi he (Stp.refl ..)) fuel

/-- One of the operations that may come next. -/
def ANext (P : Program) (m N : Nat) (ops : Array Oper) (fuel : Nat) (listed : Array Bool) (e : Env) (H : List AO) (K : Env → List AO → Prop) (i : Nat) : Prop :=
  ∃ o, ops[i]? = some o ∧ ((wantA ops e o true ∧ AOp P m N o e H (fun e' H' => AAny P m N ops fuel (listed.setIfInBounds i true) e' H' K)) ∨
    (wantA ops e o false ∧ AAny P m N ops fuel (listed.setIfInBounds i true) (put N e o.dst (.lit undef)) H K))

theorem AAny.all {rs : List Nat} (hr : Region.ready .any ops listed = rs) (hne : rs ≠ []) (h : ∀ i ∈ rs, ANext P m N ops fuel listed e H K i) : AAny P m N ops (fuel + 1) listed e H K := by
  intro R F A w a G hi he hG
  refine wpAny_all hr hne fun i hir => ?_
  obtain ⟨o, ho, h⟩ := h i hir
  unfold wpOp
  simp only [ho]
  rcases h with ⟨hw, h⟩ | ⟨hw, h⟩
  · rw [if_pos (by rw [wanted_of hw he])]
    refine .inl (h R F A w a _ _ hi he ?_)
    intro a' w' e' H' R' A' h1 h2 h3 h4
    exact h1 R' F A' w' a' G h2 h3 fun a'' w'' e'' H'' R'' A'' k1 k2 k3 k4 => hG a'' w'' e'' H'' R'' A'' k1 k2 k3 (h4.trans k4)
  · rw [if_neg (by rw [wanted_of hw he]; simp)]
    exact h R F A w _ G hi (he.put o.dst (by simp [VR])) hG

theorem AAny.take {i : Nat} {o : Oper} {v : AV} (ho : ops[i]? = some o) (hs : Region.noSelect ops = true) (hf : Region.free .any ops listed i = true) (hr : (Region.ready .any ops listed).contains i = true)
    (hw : wantA ops e o true) (hy : AYield P N o e H v) (h : AAny P m N ops fuel (listed.setIfInBounds i true) (put N e o.dst v) H K) : AAny P m N ops (fuel + 1) listed e H K := by
  intro R F A w a G hi he hG
  obtain ⟨c, hc, hv⟩ := hy R F A w a hi he
  exact wpAny_take ho hs hf hr (fun _ _ _ h => h) (.inl ⟨wanted_of hw he, hc⟩) (h R F A w _ G hi (he.put o.dst hv) hG)

theorem AAny.skip {i : Nat} {o : Oper} (ho : ops[i]? = some o) (hs : Region.noSelect ops = true) (hf : Region.free .any ops listed i = true) (hr : (Region.ready .any ops listed).contains i = true)
    (hw : wantA ops e o false) (h : AAny P m N ops fuel (listed.setIfInBounds i true) (put N e o.dst (.lit undef)) H K) : AAny P m N ops (fuel + 1) listed e H K := by
  intro R F A w a G hi he hG
  exact wpAny_take ho hs hf hr (fun _ _ _ h => h) (.inr ⟨wanted_of hw he, rfl⟩) (h R F A w _ G hi (he.put o.dst (by simp [VR])) hG)
end

section
variable {P : Program} {N : Nat} {e : Env} {H : List AO}

/-- make([]T, n), T of one cell. -/
theorem ANew.make {o : Oper} {t el : TypeId} {x y : Operand} {i : TypeInfo} {z : Value} {k k' : IntKind} {q : Int} (ho : o.op = .makeSlice t x y) (hu : P.underlying t = some (.slice el)) (hi : P.info? el = some i)
    (hz : i.zero = some z) (hsz : i.size = 1) (hc : z.cells = #[z]) (hx : ev e x = .lit (.int k q)) (hy : ev e y = .lit (.int k' q)) (h0 : 0 ≤ q) (hb : i.bytes * q.toNat ≤ 281474976710656) (hm : q.toNat ≤ maxLen) :
    ANew P N o e H (.own H.length q.toNat) (H ++ [.sl el 1 q.toNat true (List.replicate q.toNat (.lit z))]) := by
  intro R F A w a hinv he
  have hvx := he.ev x
  have hvy := he.ev y
  rw [hx] at hvx
  rw [hy] at hvy
  simp only [VR] at hvx hvy
  have hq : ((q.toNat : Nat) : Int) = q := by omega
  obtain ⟨w', h1, h2, h3⟩ := run_make_full (P := P) w w.heap.size t el i z 1 hu hi hz hsz k k' q.toNat hb hm (Nat.le_refl _)
  rw [hq] at h1
  have hpush := Inv.push (w' := w') (c := .slice (some ⟨w.heap.size, 0, none⟩) q.toNat q.toNat) (o := .sl el 1 q.toNat true (List.replicate q.toNat (.lit z))) hinv (by simp)
    h3.size (fun b hb => h3.block b hb (by simp)) h3.os h3.tape h3.output (fun b hb => by simp only [blk, Option.some.injEq] at hb; omega)
    (fun hst => by
      refine ⟨_, ⟨h2.1, ?_⟩, ?_, by simp⟩
      · rcases h2.2 with h | ⟨g, cap, cur, k1, k2, k3⟩
        · exact .inl h
        · exact .inr ⟨g, cap, cur, k1, Nat.zero_le _, k3⟩
      · rw [hc, Nat.mul_one, toList_madeCells_one]
        exact VRs.replicate (by simp [VR]) _)
  refine ⟨.slice (some ⟨w.heap.size, 0, none⟩) q.toNat q.toNat, w', _, ?_, hpush.1, ?_, hpush.2, push_old _ _ _, fun b hb => h3.block b (HB.lt hinv hb) (by simp)⟩
  · unfold execOp
    rw [ho]
    simp only [hvx, hvy, h1, Sem.run_bind, Result.andThen_ok, Sem.run_pure]
  · simp only [VR]
    exact ⟨.sl el 1 q.toNat true (List.replicate q.toNat (.lit z)), by simp, ⟨_, _, _, rfl⟩, .inr ⟨rfl, Nat.le_refl _, fun _ => by simp⟩⟩

/-- Parts put into cells. -/
def setAt (off : Nat) : List AV → List AV → Nat → List AV
  | cells, [], _ => cells
  | cells, x :: xs, j => setAt off (cells.set (off + j) x) xs (j + 1)

def fillA (place : Nat → Option (Nat × Nat)) : List AV → List (Nat × AV) → Option (List AV)
  | cells, [] => some cells
  | cells, (i, v) :: r =>
    match place i with
    | none => none
    | some (off, size) => if (cellsA v).length = size ∧ off + (cellsA v).length ≤ cells.length ∧ okc v = true then fillA place (setAt off cells (cellsA v) 0) r else none

theorem setAt_length (off : Nat) : ∀ (cells xs : List AV) (j : Nat), (setAt off cells xs j).length = cells.length
  | _, [], _ => rfl
  | cells, x :: xs, j => by rw [setAt, setAt_length]; simp

theorem setAt_sound {R A} {w : World} (off : Nat) : ∀ {cells xs : List AV} {j : Nat} {arr : Array Value} {vs : List Value}, VRs R A H w cells arr.toList → VRs R A H w xs vs →
    VRs R A H w (setAt off cells xs j) ((vs.zipIdx j).foldl (fun cs (c, j) => cs.setIfInBounds (off + j) c) arr).toList
  | cells, [], j, arr, [], h, _ => by simpa [setAt] using h
  | cells, x :: xs, j, arr, v :: vs, h, k => by
    simp only [VRs] at k
    simp only [setAt, List.zipIdx_cons, List.foldl_cons]
    exact setAt_sound off (by rw [Array.toList_setIfInBounds]; exact h.set _ k.1) k.2
  | cells, [], j, arr, _ :: _, h, k => by simp [VRs] at k
  | cells, _ :: _, j, arr, [], h, k => by simp [VRs] at k

theorem fill_sound {R A} {w : World} {a : Act} (he : EnvOk R A H w N e a) (place : Nat → Option (Nat × Nat)) : ∀ (parts : List (Nat × Operand)) {cells cells' : List AV} {arr : Array Value},
    VRs R A H w cells arr.toList → fillA place cells (parts.map fun p => (p.1, ev e p.2)) = some cells' →
    ∃ arr', Instr.fill place arr (parts.map fun p => (p.1, a.eval p.2)) = some arr' ∧ VRs R A H w cells' arr'.toList ∧ arr'.size = arr.size
  | [], cells, cells', arr, h, hf => by
    simp only [List.map_nil, fillA, Option.some.injEq] at hf
    subst hf
    exact ⟨arr, rfl, h, rfl⟩
  | (i, x) :: r, cells, cells', arr, h, hf => by
    simp only [List.map_cons, fillA] at hf
    cases hp : place i with
    | none => rw [hp] at hf; cases hf
    | some q =>
      obtain ⟨off, size⟩ := q
      rw [hp] at hf
      simp only at hf
      split at hf
      · rename_i hc
        have hv := cells_of (he.ev x) hc.2.2
        have hl := hv.1.length
        have hl2 := h.length
        have hsz : (a.eval x).cells.size = size := by rw [← Array.length_toList]; omega
        have hfit : ¬ (off + (a.eval x).cells.size > arr.size) := by rw [hsz]; simp only [Array.length_toList] at hl2; omega
        obtain ⟨arr', h1, h2, h3⟩ := fill_sound he place r (setAt_sound (j := 0) off h hv.1) hf
        refine ⟨arr', ?_, h2, ?_⟩
        · simp only [List.map_cons, Instr.fill, hp]
          rw [if_neg (by simp [hsz]; omega)]
          rw [← h1]
          congr 1
          rw [← Array.foldl_toList, Array.toList_zipIdx]
        · rw [h3]
          have : ∀ (l : List (Value × Nat)) (ar : Array Value), (l.foldl (fun cs (c, j) => cs.setIfInBounds (off + j) c) ar).size = ar.size := by
            intro l
            induction l with
            | nil => intro ar; rfl
            | cons y l ih => intro ar; rw [List.foldl_cons, ih]; simp
          exact this _ _
      · cases hf

/-- A struct, field by field. -/
theorem AYield.build {o : Oper} {t : TypeId} {parts : List (Nat × Operand)} {i : TypeInfo} {z : Value} {fields : Array Field} {places : Array (Nat × Nat)} {cells' : List AV} (ho : o.op = .build t parts.toArray)
    (hu : P.underlying t = some (.struct fields)) (hi : P.info? t = some i) (hz : i.zero = some z)
    (hpl : ∀ w, (fields.mapM (m := Sem) fun f => do pure (f.offset, ← sizeOf f.type)).run P w = .ok places w)
    (hf : fillA (places[·]?) (z.cells.toList.map .lit) (parts.map fun p => (p.1, ev e p.2)) = some cells') : AYield P N o e H (.agg cells') := by
  intro R F A w a hinv he
  obtain ⟨arr', h1, h2, h3⟩ := fill_sound (arr := z.cells) he (places[·]?) parts (VRs.lits _) hf
  refine ⟨.agg arr', fun W => ?_, by simp only [VR]; exact ⟨_, h2, by simp⟩⟩
  unfold execOp
  rw [ho]
  simp only [Instr.build, zeroValue, typeInfo, Sem.run_bind, Sem.run_pure, Result.andThen_ok, run_program, hi, hz, run_underlying hu, hpl, List.map_toArray, h1]

/-- A slice literal. -/
theorem ANew.buildSlice {o : Oper} {t el : TypeId} {n : Nat} {parts : List (Nat × Operand)} {i : TypeInfo} {z : Value} {size : Nat} {cells' : List AV} (ho : o.op = .buildSlice t n parts.toArray)
    (hu : P.underlying t = some (.slice el)) (hi : P.info? el = some i) (hz : i.zero = some z) (hsz : i.size = size) (hzs : z.cells.size = size) (hpos : 0 < size) (hn : n * size ≤ 16777216)
    (hf : fillA (fun i => some (i * size, size)) ((List.range (n * size)).map fun j => .lit (z.cells[j % z.cells.size]!)) (parts.map fun p => (p.1, ev e p.2)) = some cells') :
    ANew P N o e H (.own H.length n) (H ++ [.sl el size n true cells']) := by
  intro R F A w a hinv he
  have hnm : n ≤ maxLen := by
    have := Nat.le_mul_of_pos_right n hpos
    simp only [maxLen]; omega
  by_cases hns : n * size = 0
  · have h0 : n = 0 := by rcases Nat.mul_eq_zero.1 hns with h | h <;> omega
    subst h0
    obtain ⟨arr', h1, h2, h3⟩ := fill_sound (arr := #[]) (cells := []) he (fun i => some (i * size, size)) parts (by simp [VRs]) (by simpa using hf)
    have h4 : arr'.size = 0 := by simpa using h3
    have hpush := Inv.push (w' := w.alloc (.cells arr' el)) (c := .slice (some ⟨w.heap.size, 0, none⟩) 0 0) (o := .sl el size 0 true cells') hinv (by simp) (by simp)
      (fun b hb => alloc_old w _ b hb) rfl rfl rfl (fun b hb => by simp only [blk, Option.some.injEq] at hb; omega)
      (fun hst => ⟨_, World.ownsRow_lit w arr' 0 (Nat.zero_le _) (Nat.zero_le _) (by simpa using h4), hst.vrs h2, by simp⟩)
    refine ⟨.slice (some ⟨w.heap.size, 0, none⟩) 0 0, _, _, ?_, hpush.1, ?_, hpush.2, push_old _ _ _, fun b hb => alloc_old w _ b (HB.lt hinv hb)⟩
    · unfold execOp
      rw [ho]
      simp only [Instr.buildSlice, run_underlying hu, sizeOf, typeInfo, Sem.run_bind, Sem.run_pure, Result.andThen_ok, run_program, hi, hsz, Nat.zero_mul, List.map_toArray]
      have e0 : ∀ f : Nat → Value, Array.map f (Array.range 0) = #[] := fun f => by simp
      simp [h1, newRow, e0]
    · simp only [VR]
      exact ⟨.sl el size 0 true cells', by simp, ⟨_, _, _, rfl⟩, .inr ⟨rfl, Nat.le_refl _, fun _ => by simp⟩⟩
  · have hz0 : VRs R A H w ((List.range (n * size)).map fun j => .lit (z.cells[j % z.cells.size]!)) ((Array.range (n * size)).map (z.cells[· % z.cells.size]!)).toList := by
      rw [Array.toList_map, Array.toList_range]
      have : ∀ l : List Nat, VRs R A H w (l.map fun j => AV.lit (z.cells[j % z.cells.size]!)) (l.map (z.cells[· % z.cells.size]!)) := by
        intro l
        induction l with
        | nil => simp [VRs]
        | cons y l ih => simp only [List.map_cons, VRs, VR]; exact ⟨trivial, ih⟩
      exact this _
    obtain ⟨arr', h1, h2, h3⟩ := fill_sound he (fun i => some (i * size, size)) parts hz0 hf
    have h4 : arr'.size = n * size := by simpa using h3
    have hpush := Inv.push (w' := w.alloc (.cells arr' el)) (c := .slice (some ⟨w.heap.size, 0, none⟩) n n) (o := .sl el size n true cells') hinv (by simp) (by simp)
      (fun b hb => alloc_old w _ b hb) rfl rfl rfl (fun b hb => by simp only [blk, Option.some.injEq] at hb; omega)
      (fun hst => ⟨_, World.ownsRow_lit w arr' n (Nat.zero_le _) hnm h4, hst.vrs h2, by simp⟩)
    refine ⟨.slice (some ⟨w.heap.size, 0, none⟩) n n, _, _, ?_, hpush.1, ?_, hpush.2, push_old _ _ _, fun b hb => alloc_old w _ b (HB.lt hinv hb)⟩
    · unfold execOp
      rw [ho]
      have hle : ¬ (n * size > 2 ^ 24) := by omega
      simp only [Instr.buildSlice, run_underlying hu, sizeOf, typeInfo, zeroValue, Sem.run_bind, Sem.run_pure, Result.andThen_ok, run_program, hi, hz, hsz, if_neg hns, if_neg hle, List.map_toArray, h1, newRow, run_newObj]
      rfl
    · simp only [VR]
      exact ⟨.sl el size n true cells', by simp, ⟨_, _, _, rfl⟩, .inr ⟨rfl, Nat.le_refl _, fun _ => by simp⟩⟩

/-- A row held against nil. -/
def nilA (H : List AO) : AV → Option Bool
  | .own id n => match H[id]? with
    | some (.sl _ _ m nn _) => if nn = true ∧ n = m then some false else none
    | _ => none
  | .row _ _ nn _ => if nn then some false else none
  | .lit (.slice none _ _) => some true
  | _ => none

theorem nilA_sound {R F A} {w : World} (hi : Inv R F A H w) {x : AV} {c : Value} (hv : VR R A H w x c) {b : Bool} (hb : nilA H x = some b) : ∃ p l k, c = .slice p l k ∧ p.isNone = b := by
  cases x with
  | own id n =>
    simp only [nilA] at hb
    simp only [VR] at hv
    obtain ⟨o, h1, ⟨p, l, k, h2⟩, h3⟩ := hv
    have hob := hi.obj id o h1
    rw [h1] at hb
    cases o with
    | bx t cells => simp at hb
    | nil => simp at hb
    | gone => simp at hb
    | sl t size m nn cells =>
      simp only at hb
      split at hb
      · rename_i hc
        simp only [Option.some.injEq] at hb
        subst hb
        have h4 := (h3.resolve_left (by simp)).2.2 hc.2
        obtain ⟨vs, h5, h6, h7⟩ := hob
        refine ⟨p, l, k, h2, ?_⟩
        have h8 := h7 hc.1
        rw [← h4, h2] at h5 h8
        rcases h5.2 with ⟨h9, _⟩ | ⟨g, cap, cur, h9, _⟩
        · exact absurd h9 h8
        · simp only [Value.slice.injEq] at h9; rw [h9.1]; rfl
      · cases hb
  | row size n nn cells =>
    simp only [nilA] at hb
    split at hb
    · rename_i hn
      simp only [Option.some.injEq] at hb
      subst hb
      simp only [VR] at hv
      rcases hv with ⟨_, _, _, h⟩ | ⟨p, cap, vs, h1, _⟩
      · rw [hn] at h; cases h
      · exact ⟨some p, n, cap, h1, rfl⟩
    · cases hb
  | lit v =>
    simp only [VR] at hv
    subst hv
    unfold nilA at hb
    split at hb <;> simp_all
  | _ => simp [nilA] at hb
end
/-! ### a region that draws: what is read of old memory may be read first -/
def HS (R : Nat → Prop) (A : Nat → Value) (H : List AO) (w0 : World) : World → Prop := fun w => ∀ b, HB R A H b → w.heap[b]? = w0.heap[b]?

/-- The operation reads memory of the objects that stood when the region began. -/
def AHeld (P : Program) (N : Nat) (Hs : List AO) (o : Oper) (e : Env) (H : List AO) (v : AV) : Prop :=
  ∀ R F A w a, Inv R F A H w → (∀ (i : Nat) (o : AO), Hs[i]? = some o → H[i]? = some o) → EnvOk R A H w N e a → ∃ c, (∀ W, HS R A Hs w W → (execOp a.eval o).run P W = .ok (.value c) W) ∧ VR R A H w v c

def memS (Hs : List AO) : AV → Option (List AV) := mem Hs

section
variable {P : Program} {m N : Nat} {e e' : Env} {H Hs H' : List AO} {K : Env → List AO → Prop} {ops : Array Oper} {fuel : Nat} {listed : Array Bool} {o : Oper} {v : AV}

theorem AYield.held (h : AYield P N o e H v) : AHeld P N Hs o e H v := by
  intro R F A w a hi _ he
  obtain ⟨c, h1, h2⟩ := h R F A w a hi he
  exact ⟨c, fun W _ => h1 W, h2⟩

theorem mem_held {R F A w} (hi : Inv R F A H w) (hp : ∀ (i : Nat) (o : AO), Hs[i]? = some o → H[i]? = some o) {x : AV} {c : Value} (hv : VR R A H w x c) {cs : List AV} (hm : mem Hs x = some cs) :
    ∃ a vs, c = .pointer (some a) ∧ a.spot = none ∧ HB R A Hs a.block ∧ VRs R A H w cs vs ∧ ∀ j u, vs[j]? = some u → w.cell? (a.add j) = some u := by
  have hm' : mem H x = some cs := by
    cases x with
    | ptr id off =>
      simp only [mem] at hm ⊢
      cases h : Hs[id]? with
      | none => rw [h] at hm; simp at hm
      | some o => rw [h] at hm; rw [hp id o h]; exact hm
    | optr id n off =>
      simp only [mem] at hm ⊢
      cases h : Hs[id]? with
      | none => rw [h] at hm; simp at hm
      | some o => rw [h] at hm; rw [hp id o h]; exact hm
    | rptr cells => exact hm
    | _ => simp [mem] at hm
  obtain ⟨a, vs, h1, h2, h3, h4⟩ := mem_sound hi hv hm'
  refine ⟨a, vs, h1, h2, ?_, h3, h4⟩
  cases x with
  | ptr id off =>
    simp only [mem] at hm
    cases h : Hs[id]? with
    | none => rw [h] at hm; simp at hm
    | some o =>
      rw [h] at hm
      simp only [VR] at hv
      obtain ⟨o', g, k1, k2, k3⟩ := hv
      rw [hp id o h] at k1; cases k1
      cases o with
      | bx t cells =>
        obtain ⟨_, k4⟩ := k3.resolve_left (by simp)
        rw [h1] at k2
        simp only [Value.pointer.injEq, Option.some.injEq] at k2
        exact .inr ⟨id, _, h, by simp, by rw [k4, k2]; rfl⟩
      | _ => simp at hm
  | optr id n off =>
    simp only [mem] at hm
    cases h : Hs[id]? with
    | none => rw [h] at hm; simp at hm
    | some o =>
      rw [h] at hm
      simp only [VR] at hv
      obtain ⟨o', g, k1, k2, k3⟩ := hv
      rw [hp id o h] at k1; cases k1
      cases o with
      | sl t size mm nn cells =>
        simp only at hm
        split at hm
        · rename_i hn
          obtain ⟨l, cap, k4⟩ := (k3.resolve_left (by simp)).2.2 hn
          rw [h1] at k2
          simp only [Value.pointer.injEq, Option.some.injEq] at k2
          exact .inr ⟨id, _, h, by simp, by rw [k4, k2]; rfl⟩
        · cases hm
      | _ => simp at hm
  | rptr cells =>
    simp only [VR] at hv
    obtain ⟨a', vs', k1, k2, _⟩ := hv
    rw [h1] at k1
    simp only [Value.pointer.injEq, Option.some.injEq] at k1
    subst k1
    exact .inl k2
  | _ => simp [mem] at hm

theorem AHeld.load1 {t : TypeId} {x : Operand} {d : TypeDesc} {cs : List AV} (ho : o.op = .load t x) (hu : P.underlying t = some d) (hd : d.isRow = false)
    (hm : mem Hs (ev e x) = some cs) (hc : cs[0]? = some v) : AHeld P N Hs o e H v := by
  intro R F A w a hi hp he
  obtain ⟨p, vs, h1, h2, hB, h3, h4⟩ := mem_held hi hp (he.ev x) hm
  obtain ⟨c, h5, h6⟩ := h3.get 0 v hc
  have h7 := h4 0 c h5
  have hp0 : p.add 0 = p := by simp [Addr.add]
  rw [hp0] at h7
  refine ⟨c, fun W hW => ?_, h6⟩
  have h8 : W.cell? p = some c := by rw [World.cell?_of_block (hW _ hB)]; exact h7
  have hagg : (isAgg t).run P W = .ok false W := by
    unfold isAgg
    rw [Sem.run_bind, run_underlying hu W]
    cases d <;> simp_all [TypeDesc.isRow]
  unfold execOp
  rw [ho]
  simp only [h1, Instr.loadAt, Instr.sureAddr, loadVar, Sem.run_bind, Sem.run_pure, Result.andThen_ok, hagg, Bool.false_eq_true, if_false, run_load, h8]

theorem AHeld.loadN {t : TypeId} {x : Operand} {d : TypeDesc} {i : TypeInfo} {cs : List AV} (ho : o.op = .load t x) (hu : P.underlying t = some d) (hd : d.isRow = true)
    (hi : P.info? t = some i) (hm : mem Hs (ev e x) = some cs) (hc : i.size ≤ cs.length) : AHeld P N Hs o e H (.agg (cs.take i.size)) := by
  intro R F A w a hinv hp he
  obtain ⟨p, vs, h1, h2, hB, h3, h4⟩ := mem_held hinv hp (he.ev x) hm
  have hlen := h3.length
  refine ⟨.agg (vs.take i.size).toArray, fun W hW => ?_, by simp only [VR]; exact ⟨_, h3.take _, rfl⟩⟩
  have hp0 : p = ⟨p.block, p.off, none⟩ := by cases p; cases h2; rfl
  have hr : W.rangeAt p.block p.off (vs.take i.size) := by
    intro j v hj
    rw [World.cell?_of_block (w := w) (a := ⟨p.block, p.off + j, none⟩) (hW _ hB), ← Addr.add_mid, ← hp0]
    refine h4 j v ?_
    rw [List.getElem?_take] at hj
    split at hj
    · exact hj
    · cases hj
  have := run_loadAt_mid (P := P) W p.block p.off t (vs.take i.size) d hr hu hd (by rw [hi]; simp; omega)
  unfold execOp
  rw [ho]
  simp only [h1]
  rw [hp0]
  simp only [this, Sem.run_bind, Result.andThen_ok, Sem.run_pure]

def AH (P : Program) (m N : Nat) (Hs : List AO) (ops : Array Oper) (fuel : Nat) (listed : Array Bool) (e : Env) (H : List AO) (K : Env → List AO → Prop) : Prop :=
  ∀ R F A w0 A0 w a (G : Act → World → Prop), Inv R F A H w → EnvOk R A H w N e a → (∀ (i : Nat) (o : AO), Hs[i]? = some o → H[i]? = some o) → (∀ (i : Nat) (o : AO), Hs[i]? = some o → A i = A0 i) → HS R A0 Hs w0 w →
    (∀ a' w' e' H' R' A', K e' H' → Inv R' F A' H' w' → EnvOk R' A' H' w' N e' a' → Stp m R F A H w R' A' H' w' → G a' w') → wpAnyH P .any ops (onlyG G) (HS R A0 Hs w0) fuel listed a w

theorem HS.to {R A A0 w0 w W} (hA : ∀ (i : Nat) (o : AO), Hs[i]? = some o → A i = A0 i) (h1 : HS R A0 Hs w0 w) (h2 : HS R A0 Hs w0 W) : HS R A Hs w W := by
  intro b hb
  have hb' : HB R A0 Hs b := by
    rcases hb with hb | ⟨i, o, k1, k2, k3⟩
    · exact .inl hb
    · exact .inr ⟨i, o, k1, k2, by rw [← hA i o k1]; exact k3⟩
  rw [h1 b hb', h2 b hb']

theorem AWp.regionH {id : Nat} {l : List Oper} {Q : Exit → Env → List AO → Prop} (hm : P.follows .mixedOrders = true) {sz : Nat} (hsz : l.length = sz)
    (h : AH P m N H l.toArray sz (Array.replicate sz false) e H (fun e' H' => Q .normal e' H')) : AWp P m N (.region id l.toArray true) e H Q := by
  subst hsz
  intro R F A w a hi he
  have h1 : (Code.region id l.toArray true).wp P (onlyG fun a' w' => Lift m Q R F A H w N .normal a' w') a w := by
    refine wp_region_held (S := HS R A H { w with drawn := w.drawn + 1 }) hm ?_
    have hst : Stp H.length R F A H w R A H { w with drawn := w.drawn + 1 } := Stp.heap _ rfl rfl rfl rfl
    simpa using h R F A { w with drawn := w.drawn + 1 } A { w with drawn := w.drawn + 1 } a _ (hi.heap rfl rfl rfl rfl) (he.stp hst) (fun _ _ h => h) (fun _ _ _ => rfl) (fun _ _ => rfl)
      fun a' w' e' H' R' A' k1 k2 k3 k4 => ⟨e', H', R', A', k1, k2, k3, hst.any.trans k4⟩
  refine wp_mono h1 ?_
  intro x a' w' hq
  cases x <;> first | exact hq | exact hq.elim

theorem AH.done (hr : Region.ready .any ops listed = []) (h : K e H) : AH P m N Hs ops fuel listed e H K :=
  fun R F A w0 A0 w a G hi he _ _ _ hG => wpAnyH_done hr (hG a w e H R A h hi he (Stp.refl ..)) fuel

theorem AH.take {i : Nat} (ho : ops[i]? = some o) (hs : Region.noSelect ops = true) (hf : Region.free .any ops listed i = true) (hr : (Region.ready .any ops listed).contains i = true)
    (hw : wantA ops e o true) (hy : AHeld P N Hs o e H v) (h : AH P m N Hs ops fuel (listed.setIfInBounds i true) (put N e o.dst v) H K) : AH P m N Hs ops (fuel + 1) listed e H K := by
  intro R F A w0 A0 w a G hi he hp hA hS hG
  obtain ⟨c, hc, hv⟩ := hy R F A w a hi hp he
  exact wpAnyH_take ho hs hf hr (fun _ _ _ h => h) (.inl ⟨wanted_of hw he, fun W hW => hc W (HS.to hA hS hW)⟩) hS (h R F A w0 A0 w _ G hi (he.put o.dst hv) hp hA hS hG)

theorem AH.skip {i : Nat} (ho : ops[i]? = some o) (hs : Region.noSelect ops = true) (hf : Region.free .any ops listed i = true) (hr : (Region.ready .any ops listed).contains i = true)
    (hw : wantA ops e o false) (h : AH P m N Hs ops fuel (listed.setIfInBounds i true) (put N e o.dst (.lit undef)) H K) : AH P m N Hs ops (fuel + 1) listed e H K := by
  intro R F A w0 A0 w a G hi he hp hA hS hG
  exact wpAnyH_take ho hs hf hr (fun _ _ _ h => h) (.inr ⟨wanted_of hw he, rfl⟩) hS (h R F A w0 A0 w _ G hi (he.put o.dst (by simp [VR])) hp hA hS hG)

/-- An operation that makes memory, or a call, that leaves all that stood when the region began. -/
def AOpS (P : Program) (m N : Nat) (o : Oper) (e : Env) (H : List AO) (K : Env → List AO → Prop) : Prop :=
  ∀ R F A w a (G : Act → World → Prop) (Q : Exit → Act → World → Prop), Inv R F A H w → EnvOk R A H w N e a →
    (∀ a' w' e' H' A', K e' H' → Inv R F A' H' w' → EnvOk R A' H' w' N e' a' → Stp m R F A H w R A' H' w' → (∀ (i : Nat) (o : AO), H[i]? = some o → H'[i]? = some o ∧ A' i = A i) → (∀ b, HB R A H b → w'.heap[b]? = w.heap[b]?) → G a' w') → o.wp P a w G Q

theorem AH.one {i : Nat} (ho : ops[i]? = some o) (hr : Region.ready .any ops listed = [i]) (hw : wantA ops e o true) (h : AOpS P m N o e H (fun e' H' => AH P m N Hs ops fuel (listed.setIfInBounds i true) e' H' K)) : AH P m N Hs ops (fuel + 1) listed e H K := by
  intro R F A w0 A0 w a G hi he hp hA hS hG
  refine wpAnyH_all hr (by simp) fun j hj => ?_
  simp only [List.mem_singleton] at hj
  subst hj
  unfold wpOp
  simp only [ho]
  rw [if_pos (by rw [wanted_of hw he])]
  refine .inl (h R F A w a _ _ hi he ?_)
  intro a' w' e' H' A' h1 h2 h3 h4 h5 h6
  have hB : ∀ b, HB R A0 Hs b → HB R A H b := by
    rintro b (hb | ⟨i, o, k1, k2, k3⟩)
    · exact .inl hb
    · exact .inr ⟨i, o, hp i o k1, k2, by rw [hA i o k1]; exact k3⟩
  have hS' : HS R A0 Hs w0 w' := fun b hb => by rw [h6 b (hB b hb)]; exact hS b hb
  refine ⟨hS', h1 R F A' w0 A0 w' a' G h2 h3 (fun i o k => (h5 i o (hp i o k)).1) (fun i o k => by rw [(h5 i o (hp i o k)).2]; exact hA i o k) hS' ?_⟩
  intro a'' w'' e'' H'' R'' A'' k1 k2 k3 k4
  exact hG a'' w'' e'' H'' R'' A'' k1 k2 k3 (h4.trans k4)

theorem AOpS.step (hs : AHeld P N H o e H v) (hn : K (put N e o.dst v) H) : AOpS P m N o e H K := by
  intro R F A w a G Q hi he hG
  obtain ⟨c, h1, h2⟩ := hs R F A w a hi (fun _ _ h => h) he
  unfold Oper.wp
  rw [h1 w (fun _ _ => rfl)]
  exact hG _ _ _ _ _ hn hi (he.put o.dst h2) (Stp.refl ..) (fun _ _ h => ⟨h, rfl⟩) (fun _ _ => rfl)

theorem AOpS.new (hs : ANew P N o e H v H') (hn : K (put N e o.dst v) H') : AOpS P m N o e H K := by
  intro R F A w a G Q hi he hG
  obtain ⟨c, w', A', h1, h2, h3, h4, h5, h6⟩ := hs R F A w a hi he
  unfold Oper.wp
  rw [h1]
  exact hG _ _ _ _ _ hn h2 ((he.stp h4).put o.dst h3) h4.any h5 h6

/-- A call that lends all there is. -/
theorem AOpS.call {x : Operand} {xs : List Operand} {ts : Array TypeId} {f : FuncId} {fn : Func} {caps avs0 : List AV} {Q0 : AV → List AO → Prop}
    (ho : o.op = .call { callee := .value x, args := xs.toArray, argTypes := ts }) (hx : ev e x = .fn f caps) (hf : P.funcs[f]? = some fn) (hname : (fn.name == "runtime.NumGoroutine") = false) (hb : fn.body.isSome = true)
    (hc : ACalls P f avs0 [] Q0) (ha : Subs true [] H (xs.map (ev e) ++ caps) avs0)
    (hn : ∀ r H', Q0 r H' → (norow r = true ∧ H'.all norowO = true) ∧ K (put N e o.dst (renV (rho [] H.length) r)) (mergeH [] H H')) : AOpS P m N o e H K := by
  intro R F A w a G Q hi he hG
  have hvx := he.ev x
  rw [hx] at hvx
  simp only [VR] at hvx
  obtain ⟨vs, hvs, hfx⟩ := hvx
  have hrun : (execOp a.eval o).run P w = .ok (.enter f (xs.map a.eval ++ vs).toArray) w := by
    have := enters hf hname hb (xs.map a.eval ++ vs).toArray w
    unfold execOp
    rw [ho]
    simp only [resolve, hfx, Deferred.ofValue, invoke, Sem.run_bind, Sem.run_pure, Result.andThen_ok, List.map_toArray, Array.empty_append, List.append_toArray, this, List.nil_append]
  have hs : SubH true [] H [] [] := .nil
  have hi0 := hi.part List.nodup_nil hs
  have hargs : VRs (RL true R [] A H) (fun j => A (([] : List Nat).getD j 0)) [] w avs0 (xs.map a.eval ++ vs) :=
    Subs.ok hi (fun b hb => .inl hb) (fun hl i o b h1 h2 h3 h4 => .inr ⟨hl, i, o, h1, h2, h3, h4⟩) hs.hA ha (evs_append he hvs)
  have hcall := hc _ _ _ w _ hi0 hargs
  unfold Oper.wp
  rw [hrun, Oper.upon_enter]
  refine hcall.mono ?_
  rintro x w' ⟨v, r, H', R', A', rfl, hq, hi', hv, hst⟩
  obtain ⟨hr1, hr2⟩ := hn r H' hq
  -- the way back, with what stays
  obtain ⟨R2, A2, h1, h2, h3, h4, h5⟩ := part_back (l := true) hi List.nodup_nil hs hi' hst hv (.inr hr1)
  have h5 := h5 rfl
  subst h5
  refine hG _ _ _ _ _ hr2 h1 ((he.stp h3).put o.dst h2) h3.any (fun i o k => h4 i o (by simp) k) (fun b hb => ?_)
  refine hst.keep b (.inl ?_)
  rcases hb with hb | ⟨i, o, k1, k2, k3⟩
  · exact .inl hb
  · exact .inr ⟨rfl, i, o, by simp, k1, k2, k3⟩
end
/-! A region that draws, walked in the text's order: which operations stand alone is computed once. -/
def preB (i n : Nat) : Array Bool := (List.replicate i true ++ List.replicate (n - i) false).toArray
theorem preB_zero (n : Nat) : preB 0 n = Array.replicate n false := by simp [preB]
theorem preB_set {i n : Nat} (h : i < n) : (preB i n).setIfInBounds i true = preB (i + 1) n := by
  unfold preB
  rw [List.setIfInBounds_toArray]
  congr 1
  rw [List.set_append_right _ _ (by simp)]
  obtain ⟨d, rfl⟩ : ∃ d, n = i + (d + 1) := ⟨n - i - 1, by omega⟩
  have h1 : i + (d + 1) - i = d + 1 := by omega
  have h2 : i + (d + 1) - (i + 1) = d := by omega
  rw [h1, h2, List.length_replicate, Nat.sub_self, List.replicate_succ' (n := i), List.append_assoc]
  rfl
def dsK (ka : List Nat) : List Nat := (List.range ka.length).filter fun i => ka.getD i 0 == 2
def schedB (ops : Array Oper) (ka : List Nat) : Bool :=
  Region.noSelect ops && ((List.range ops.size).all fun i => if ka.getD i 0 == 0 then Region.free .any ops (preB i ops.size) i && (Region.ready .any ops (preB i ops.size)).contains i && Region.closedB .any ops (preB i ops.size) && Region.lastB .any ops (preB i ops.size) (dsK ka) i else Region.ready .any ops (preB i ops.size) == [i]) && (Region.ready .any ops (preB ops.size ops.size) == [])
theorem mem_dsK {ka : List Nat} {i x : Nat} (h : ka[i]? = some x) : i ∈ dsK ka ↔ x = 2 := by
  have hl := (List.getElem?_eq_some_iff.1 h).1
  unfold dsK
  rw [List.mem_filter, List.mem_range, List.getD_eq_getElem?_getD, h]
  simp [hl]
section
variable {P : Program} {m N : Nat} {e : Env} {H Hs : List AO} {K : Env → List AO → Prop} {o : Oper} {ops : Array Oper} {ka ks : List Nat} {rest : List Oper} {v : AV} {ds : List Nat} {fuel : Nat} {listed : Array Bool}
def AL (P : Program) (m N : Nat) (Hs : List AO) (ops : Array Oper) (ds : List Nat) (fuel : Nat) (listed : Array Bool) (e : Env) (H : List AO) (K : Env → List AO → Prop) : Prop :=
  ∀ R F A w0 A0 w a (G : Act → World → Prop), Inv R F A H w → EnvOk R A H w N e a → (∀ (i : Nat) (o : AO), Hs[i]? = some o → H[i]? = some o) → (∀ (i : Nat) (o : AO), Hs[i]? = some o → A i = A0 i) → HS R A0 Hs w0 w →
    (∀ a' w' e' H' R' A', K e' H' → Inv R' F A' H' w' → EnvOk R' A' H' w' N e' a' → Stp m R F A H w R' A' H' w' → G a' w') → wpAnyLast P .any ops (onlyG G) (HS R A0 Hs w0) ds fuel listed a w
/-- Behind a store: each operation stands alone. -/
def AZ (P : Program) (m N : Nat) (ops : Array Oper) (ds : List Nat) (fuel : Nat) (listed : Array Bool) (e : Env) (H : List AO) (K : Env → List AO → Prop) : Prop :=
  ∀ R F A w a (G : Act → World → Prop) (S : World → Prop), Inv R F A H w → EnvOk R A H w N e a →
    (∀ a' w' e' H' R' A', K e' H' → Inv R' F A' H' w' → EnvOk R' A' H' w' N e' a' → Stp m R F A H w R' A' H' w' → G a' w') → wpAnyLast P .any ops (onlyG G) S ds fuel listed a w
theorem AWp.regionL {id : Nat} {l : List Oper} {Q : Exit → Env → List AO → Prop} (hm : P.follows .mixedOrders = true)
    (h : AL P m N H l.toArray ds l.length (Array.replicate l.length false) e H (fun e' H' => Q .normal e' H')) : AWp P m N (.region id l.toArray true) e H Q := by
  intro R F A w a hi he
  have h1 : (Code.region id l.toArray true).wp P (onlyG fun a' w' => Lift m Q R F A H w N .normal a' w') a w := by
    refine wp_region_last (S := HS R A H { w with drawn := w.drawn + 1 }) (ds := ds) hm ?_
    have hst : Stp H.length R F A H w R A H { w with drawn := w.drawn + 1 } := Stp.heap _ rfl rfl rfl rfl
    simpa using h R F A { w with drawn := w.drawn + 1 } A { w with drawn := w.drawn + 1 } a _ (hi.heap rfl rfl rfl rfl) (he.stp hst) (fun _ _ h => h) (fun _ _ _ => rfl) (fun _ _ => rfl)
      fun a' w' e' H' R' A' k1 k2 k3 k4 => ⟨e', H', R', A', k1, k2, k3, hst.any.trans k4⟩
  refine wp_mono h1 ?_
  intro x a' w' hq
  cases x <;> first | exact hq | exact hq.elim
theorem AL.done (hr : Region.ready .any ops listed = []) (h : K e H) : AL P m N Hs ops ds fuel listed e H K :=
  fun R F A w0 A0 w a G hi he _ _ _ hG => wpAnyLast_done hr (hG a w e H R A h hi he (Stp.refl ..)) fuel
theorem AZ.done (hr : Region.ready .any ops listed = []) (h : K e H) : AZ P m N ops ds fuel listed e H K :=
  fun R F A w a G S hi he hG => wpAnyLast_done hr (hG a w e H R A h hi he (Stp.refl ..)) fuel
theorem AL.take {i : Nat} (ho : ops[i]? = some o) (hs : Region.noSelect ops = true) (hf : Region.free .any ops listed i = true) (hr : (Region.ready .any ops listed).contains i = true) (hc : Region.closedB .any ops listed = true) (hl : Region.lastB .any ops listed ds i = true)
    (hw : wantA ops e o true) (hy : AHeld P N Hs o e H v) (h : AL P m N Hs ops ds fuel (listed.setIfInBounds i true) (put N e o.dst v) H K) : AL P m N Hs ops ds (fuel + 1) listed e H K := by
  intro R F A w0 A0 w a G hi he hp hA hS hG
  obtain ⟨c, hc', hv⟩ := hy R F A w a hi hp he
  exact wpAnyLast_take ho hs hf hr hc hl (fun _ _ _ h => h) (.inl ⟨wanted_of hw he, fun W hW => hc' W (HS.to hA hS hW)⟩) hS (h R F A w0 A0 w _ G hi (he.put o.dst hv) hp hA hS hG)
theorem AL.skip {i : Nat} (ho : ops[i]? = some o) (hs : Region.noSelect ops = true) (hf : Region.free .any ops listed i = true) (hr : (Region.ready .any ops listed).contains i = true) (hc : Region.closedB .any ops listed = true) (hl : Region.lastB .any ops listed ds i = true)
    (hw : wantA ops e o false) (h : AL P m N Hs ops ds fuel (listed.setIfInBounds i true) (put N e o.dst (.lit undef)) H K) : AL P m N Hs ops ds (fuel + 1) listed e H K := by
  intro R F A w0 A0 w a G hi he hp hA hS hG
  exact wpAnyLast_take ho hs hf hr hc hl (fun _ _ _ h => h) (.inr ⟨wanted_of hw he, rfl⟩) hS (h R F A w0 A0 w _ G hi (he.put o.dst (by simp [VR])) hp hA hS hG)
theorem AL.one {i : Nat} (ho : ops[i]? = some o) (hr : Region.ready .any ops listed = [i]) (hw : wantA ops e o true) (h : AOpS P m N o e H (fun e' H' => AL P m N Hs ops ds fuel (listed.setIfInBounds i true) e' H' K)) : AL P m N Hs ops ds (fuel + 1) listed e H K := by
  intro R F A w0 A0 w a G hi he hp hA hS hG
  refine wpAnyLast_all hr (by simp) fun j hj => ?_
  simp only [List.mem_singleton] at hj
  subst hj
  unfold wpOp
  simp only [ho]
  rw [if_pos (by rw [wanted_of hw he])]
  refine .inl (h R F A w a _ _ hi he ?_)
  intro a' w' e' H' A' h1 h2 h3 h4 h5 h6
  have hB : ∀ b, HB R A0 Hs b → HB R A H b := by
    rintro b (hb | ⟨i, o, k1, k2, k3⟩)
    · exact .inl hb
    · exact .inr ⟨i, o, hp i o k1, k2, by rw [hA i o k1]; exact k3⟩
  have hS' : HS R A0 Hs w0 w' := fun b hb => by rw [h6 b (hB b hb)]; exact hS b hb
  refine ⟨fun _ _ => hS', h1 R F A' w0 A0 w' a' G h2 h3 (fun i o k => (h5 i o (hp i o k)).1) (fun i o k => by rw [(h5 i o (hp i o k)).2]; exact hA i o k) hS' ?_⟩
  intro a'' w'' e'' H'' R'' A'' k1 k2 k3 k4
  exact hG a'' w'' e'' H'' R'' A'' k1 k2 k3 (h4.trans k4)
theorem AL.skip1 {i : Nat} (ho : ops[i]? = some o) (hr : Region.ready .any ops listed = [i]) (hw : wantA ops e o false) (h : AL P m N Hs ops ds fuel (listed.setIfInBounds i true) (put N e o.dst (.lit undef)) H K) : AL P m N Hs ops ds (fuel + 1) listed e H K := by
  intro R F A w0 A0 w a G hi he hp hA hS hG
  refine wpAnyLast_all hr (by simp) fun j hj => ?_
  simp only [List.mem_singleton] at hj
  subst hj
  unfold wpOp
  simp only [ho]
  rw [if_neg (by rw [wanted_of hw he]; simp)]
  exact ⟨fun _ _ => hS, h R F A w0 A0 w _ G hi (he.put o.dst (by simp [VR])) hp hA hS hG⟩
theorem AL.last {i : Nat} (ho : ops[i]? = some o) (hr : Region.ready .any ops listed = [i]) (hd : i ∈ ds) (hw : wantA ops e o true) (h : AOp P m N o e H (fun e' H' => AZ P m N ops ds fuel (listed.setIfInBounds i true) e' H' K)) : AL P m N Hs ops ds (fuel + 1) listed e H K := by
  intro R F A w0 A0 w a G hi he hp hA hS hG
  refine wpAnyLast_all hr (by simp) fun j hj => ?_
  simp only [List.mem_singleton] at hj
  subst hj
  unfold wpOp
  simp only [ho]
  rw [if_pos (by rw [wanted_of hw he])]
  refine .inl (h R F A w a _ _ hi he ?_)
  intro a' w' e' H' R' A' h1 h2 h3 h4
  exact ⟨fun hn => absurd hd hn, h1 R' F A' w' a' G _ h2 h3 fun a'' w'' e'' H'' R'' A'' k1 k2 k3 k4 => hG a'' w'' e'' H'' R'' A'' k1 k2 k3 (h4.trans k4)⟩
theorem AZ.one {i : Nat} (ho : ops[i]? = some o) (hr : Region.ready .any ops listed = [i]) (hd : i ∈ ds) (hw : wantA ops e o true) (h : AOp P m N o e H (fun e' H' => AZ P m N ops ds fuel (listed.setIfInBounds i true) e' H' K)) : AZ P m N ops ds (fuel + 1) listed e H K := by
  intro R F A w a G S hi he hG
  refine wpAnyLast_all hr (by simp) fun j hj => ?_
  simp only [List.mem_singleton] at hj
  subst hj
  unfold wpOp
  simp only [ho]
  rw [if_pos (by rw [wanted_of hw he])]
  refine .inl (h R F A w a _ _ hi he ?_)
  intro a' w' e' H' R' A' h1 h2 h3 h4
  exact ⟨fun hn => absurd hd hn, h1 R' F A' w' a' G _ h2 h3 fun a'' w'' e'' H'' R'' A'' k1 k2 k3 k4 => hG a'' w'' e'' H'' R'' A'' k1 k2 k3 (h4.trans k4)⟩
theorem AZ.skip1 {i : Nat} (ho : ops[i]? = some o) (hr : Region.ready .any ops listed = [i]) (hd : i ∈ ds) (hw : wantA ops e o false) (h : AZ P m N ops ds fuel (listed.setIfInBounds i true) (put N e o.dst (.lit undef)) H K) : AZ P m N ops ds (fuel + 1) listed e H K := by
  intro R F A w a G S hi he hG
  refine wpAnyLast_all hr (by simp) fun j hj => ?_
  simp only [List.mem_singleton] at hj
  subst hj
  unfold wpOp
  simp only [ho]
  rw [if_neg (by rw [wanted_of hw he]; simp)]
  exact ⟨fun hn => absurd hd hn, h R F A w _ G _ hi (he.put o.dst (by simp [VR])) hG⟩
def AHp (P : Program) (m N : Nat) (Hs : List AO) (ops : Array Oper) (ka : List Nat) (rest : List Oper) (ks : List Nat) (e : Env) (H : List AO) (K : Env → List AO → Prop) : Prop :=
  ∀ i, ops.toList.drop i = rest → ka.drop i = ks → i ≤ ops.size → schedB ops ka = true → AL P m N Hs ops (dsK ka) (ops.size - i) (preB i ops.size) e H K
def AZp (P : Program) (m N : Nat) (ops : Array Oper) (ka : List Nat) (rest : List Oper) (ks : List Nat) (e : Env) (H : List AO) (K : Env → List AO → Prop) : Prop :=
  ∀ i, ops.toList.drop i = rest → ka.drop i = ks → i ≤ ops.size → schedB ops ka = true → AZ P m N ops (dsK ka) (ops.size - i) (preB i ops.size) e H K
theorem drop_head {α : Type} {l : List α} {i : Nat} {x : α} {r : List α} (h : l.drop i = x :: r) : l[i]? = some x ∧ l.drop (i + 1) = r ∧ i < l.length := by
  have h1 : i < l.length := by
    rcases Nat.lt_or_ge i l.length with k | k
    · exact k
    · rw [List.drop_eq_nil_of_le k] at h; cases h
  rw [List.drop_eq_getElem_cons h1] at h
  simp only [List.cons.injEq] at h
  exact ⟨by rw [List.getElem?_eq_getElem h1, h.1], h.2, h1⟩
theorem sched_end (hs : schedB ops ka = true) : Region.ready .any ops (preB ops.size ops.size) = [] := by
  simp only [schedB, Bool.and_eq_true, beq_iff_eq] at hs
  exact hs.2
theorem sched_at {i : Nat} {b : Nat} (hs : schedB ops ka = true) (hi : i < ops.size) (hb : ka[i]? = some b) :
    Region.noSelect ops = true ∧ (if b == 0 then Region.free .any ops (preB i ops.size) i && (Region.ready .any ops (preB i ops.size)).contains i && Region.closedB .any ops (preB i ops.size) && Region.lastB .any ops (preB i ops.size) (dsK ka) i else Region.ready .any ops (preB i ops.size) == [i]) = true := by
  simp only [schedB, Bool.and_eq_true, List.all_eq_true, List.mem_range] at hs
  refine ⟨hs.1.1, ?_⟩
  have := hs.1.2 i hi
  rw [List.getD_eq_getElem?_getD, hb] at this
  exact this
theorem AHp.nil (h : K e H) : AHp P m N Hs ops ka [] ks e H K := by
  intro i h1 _ hi hs
  have h2 : ops.size ≤ i := by simpa using List.drop_eq_nil_iff.1 h1
  obtain rfl : i = ops.size := by omega
  exact AL.done (sched_end hs) h
theorem AZp.nil (h : K e H) : AZp P m N ops ka [] ks e H K := by
  intro i h1 _ hi hs
  have h2 : ops.size ≤ i := by simpa using List.drop_eq_nil_iff.1 h1
  obtain rfl : i = ops.size := by omega
  exact AZ.done (sched_end hs) h
theorem AHp.take (hw : wantA ops e o true) (hy : AHeld P N Hs o e H v) (h : AHp P m N Hs ops ka rest ks (put N e o.dst v) H K) : AHp P m N Hs ops ka (o :: rest) (0 :: ks) e H K := by
  intro i h1 h2 hi hs
  obtain ⟨k1, k2, k3⟩ := drop_head h1
  obtain ⟨j1, j2, _⟩ := drop_head h2
  have hlt : i < ops.size := by simpa using k3
  obtain ⟨q1, q2⟩ := sched_at hs hlt j1
  rw [if_pos (by rfl)] at q2
  simp only [Bool.and_eq_true] at q2
  have hf : ops.size - i = (ops.size - (i + 1)) + 1 := by omega
  rw [hf]
  refine AL.take (i := i) (by simpa using k1) q1 q2.1.1.1 q2.1.1.2 q2.1.2 q2.2 hw hy ?_
  rw [preB_set hlt]
  exact h (i + 1) k2 j2 (by omega) hs
theorem AHp.skip (hw : wantA ops e o false) (h : AHp P m N Hs ops ka rest ks (put N e o.dst (.lit undef)) H K) : AHp P m N Hs ops ka (o :: rest) (0 :: ks) e H K := by
  intro i h1 h2 hi hs
  obtain ⟨k1, k2, k3⟩ := drop_head h1
  obtain ⟨j1, j2, _⟩ := drop_head h2
  have hlt : i < ops.size := by simpa using k3
  obtain ⟨q1, q2⟩ := sched_at hs hlt j1
  rw [if_pos (by rfl)] at q2
  simp only [Bool.and_eq_true] at q2
  have hf : ops.size - i = (ops.size - (i + 1)) + 1 := by omega
  rw [hf]
  refine AL.skip (i := i) (by simpa using k1) q1 q2.1.1.1 q2.1.1.2 q2.1.2 q2.2 hw ?_
  rw [preB_set hlt]
  exact h (i + 1) k2 j2 (by omega) hs
theorem AHp.one (hw : wantA ops e o true) (h : AOpS P m N o e H (fun e' H' => AHp P m N Hs ops ka rest ks e' H' K)) : AHp P m N Hs ops ka (o :: rest) (1 :: ks) e H K := by
  intro i h1 h2 hi hs
  obtain ⟨k1, k2, k3⟩ := drop_head h1
  obtain ⟨j1, j2, _⟩ := drop_head h2
  have hlt : i < ops.size := by simpa using k3
  obtain ⟨q1, q2⟩ := sched_at hs hlt j1
  rw [if_neg (by decide)] at q2
  simp only [beq_iff_eq] at q2
  have hf : ops.size - i = (ops.size - (i + 1)) + 1 := by omega
  rw [hf]
  refine AL.one (i := i) (by simpa using k1) q2 hw ?_
  rw [preB_set hlt]
  intro R F A w a G Q hi' he hG
  exact h R F A w a G Q hi' he fun a' w' e' H' A' k => hG a' w' e' H' A' (k (i + 1) k2 j2 (by omega) hs)
theorem AHp.skip1 (hw : wantA ops e o false) (h : AHp P m N Hs ops ka rest ks (put N e o.dst (.lit undef)) H K) : AHp P m N Hs ops ka (o :: rest) (1 :: ks) e H K := by
  intro i h1 h2 hi hs
  obtain ⟨k1, k2, k3⟩ := drop_head h1
  obtain ⟨j1, j2, _⟩ := drop_head h2
  have hlt : i < ops.size := by simpa using k3
  obtain ⟨q1, q2⟩ := sched_at hs hlt j1
  rw [if_neg (by decide)] at q2
  simp only [beq_iff_eq] at q2
  have hf : ops.size - i = (ops.size - (i + 1)) + 1 := by omega
  rw [hf]
  refine AL.skip1 (i := i) (by simpa using k1) q2 hw ?_
  rw [preB_set hlt]
  exact h (i + 1) k2 j2 (by omega) hs
theorem AHp.last (hw : wantA ops e o true) (h : AOp P m N o e H (fun e' H' => AZp P m N ops ka rest ks e' H' K)) : AHp P m N Hs ops ka (o :: rest) (2 :: ks) e H K := by
  intro i h1 h2 hi hs
  obtain ⟨k1, k2, k3⟩ := drop_head h1
  obtain ⟨j1, j2, _⟩ := drop_head h2
  have hlt : i < ops.size := by simpa using k3
  obtain ⟨q1, q2⟩ := sched_at hs hlt j1
  rw [if_neg (by decide)] at q2
  simp only [beq_iff_eq] at q2
  have hf : ops.size - i = (ops.size - (i + 1)) + 1 := by omega
  rw [hf]
  refine AL.last (i := i) (by simpa using k1) q2 ((mem_dsK j1).2 rfl) hw ?_
  rw [preB_set hlt]
  intro R F A w a G Q hi' he hG
  exact h R F A w a G Q hi' he fun a' w' e' H' R' A' k => hG a' w' e' H' R' A' (k (i + 1) k2 j2 (by omega) hs)
theorem AZp.one (hw : wantA ops e o true) (h : AOp P m N o e H (fun e' H' => AZp P m N ops ka rest ks e' H' K)) : AZp P m N ops ka (o :: rest) (2 :: ks) e H K := by
  intro i h1 h2 hi hs
  obtain ⟨k1, k2, k3⟩ := drop_head h1
  obtain ⟨j1, j2, _⟩ := drop_head h2
  have hlt : i < ops.size := by simpa using k3
  obtain ⟨q1, q2⟩ := sched_at hs hlt j1
  rw [if_neg (by decide)] at q2
  simp only [beq_iff_eq] at q2
  have hf : ops.size - i = (ops.size - (i + 1)) + 1 := by omega
  rw [hf]
  refine AZ.one (i := i) (by simpa using k1) q2 ((mem_dsK j1).2 rfl) hw ?_
  rw [preB_set hlt]
  intro R F A w a G Q hi' he hG
  exact h R F A w a G Q hi' he fun a' w' e' H' R' A' k => hG a' w' e' H' R' A' (k (i + 1) k2 j2 (by omega) hs)
theorem AZp.skip1 (hw : wantA ops e o false) (h : AZp P m N ops ka rest ks (put N e o.dst (.lit undef)) H K) : AZp P m N ops ka (o :: rest) (2 :: ks) e H K := by
  intro i h1 h2 hi hs
  obtain ⟨k1, k2, k3⟩ := drop_head h1
  obtain ⟨j1, j2, _⟩ := drop_head h2
  have hlt : i < ops.size := by simpa using k3
  obtain ⟨q1, q2⟩ := sched_at hs hlt j1
  rw [if_neg (by decide)] at q2
  simp only [beq_iff_eq] at q2
  have hf : ops.size - i = (ops.size - (i + 1)) + 1 := by omega
  rw [hf]
  refine AZ.skip1 (i := i) (by simpa using k1) q2 ((mem_dsK j1).2 rfl) hw ?_
  rw [preB_set hlt]
  exact h (i + 1) k2 j2 (by omega) hs
theorem AWp.regionP {id : Nat} {l : List Oper} {Q : Exit → Env → List AO → Prop} (ka : List Nat) (hm : P.follows .mixedOrders = true) (hs : schedB l.toArray ka = true)
    (h : AHp P m N H l.toArray ka l ka e H (fun e' H' => Q .normal e' H')) : AWp P m N (.region id l.toArray true) e H Q := by
  refine AWp.regionL hm (ds := dsK ka) ?_
  have := h 0 (by simp) (by simp) (Nat.zero_le _) hs
  rw [preB_zero] at this
  simpa using this
end
/-! ### the walk's own words -/
def ints (k : IntKind) (xs : List Int) : List AV := xs.map fun n => .lit (.int k n)

theorem ints_length (k : IntKind) (xs : List Int) : (ints k xs).length = xs.length := by simp [ints]
theorem noids_ints (k : IntKind) : ∀ xs : List Int, noids (ints k xs) = true
  | [] => rfl
  | x :: xs => by simp only [ints, List.map_cons, noids, noid, Bool.true_and]; exact noids_ints k xs
theorem norows_ints (k : IntKind) : ∀ xs : List Int, norows (ints k xs) = true
  | [] => rfl
  | x :: xs => by simp only [ints, List.map_cons, norows, norow, Bool.true_and]; exact norows_ints k xs
theorem ones_ints (k : IntKind) (xs : List Int) : (ints k xs).all AV.one = true := by simp [ints, AV.one, Value.oneCell']
theorem renVs_ints (f : Nat → Nat) (k : IntKind) : ∀ xs : List Int, renVs f (ints k xs) = ints k xs
  | [] => rfl
  | x :: xs => by simp only [ints, List.map_cons, renVs, renV]; exact congrArg _ (renVs_ints f k xs)
theorem ints_append (k : IntKind) (xs ys : List Int) : ints k xs ++ ints k ys = ints k (xs ++ ys) := by simp [ints]
theorem ints_snoc (k : IntKind) (xs : List Int) (n : Int) : ints k xs ++ [.lit (.int k n)] = ints k (xs ++ [n]) := by simp [ints]
theorem ints_set (k : IntKind) (xs : List Int) (i : Nat) (n : Int) : (ints k xs).set i (.lit (.int k n)) = ints k (xs.set i n) := by simp [ints, List.map_set]
theorem ints_replicate (k : IntKind) (n : Nat) (v : Int) : List.replicate n (AV.lit (.int k v)) = ints k (List.replicate n v) := by simp [ints]
theorem ints_nil (k : IntKind) : ([] : List AV) = ints k [] := rfl
theorem ints_get {k : IntKind} {xs : List Int} {i : Int} (h0 : 0 ≤ i) (h1 : i < xs.length) : ((ints k xs).drop i.toNat)[0]? = some (.lit (.int k (rd xs i))) := by
  have hlt : i.toNat < xs.length := by omega
  rw [List.getElem?_drop]
  simp [ints, rd, hlt, List.getD_eq_getElem?_getD]
theorem wrap_i64 (n : Int) : IntKind.i64.wrap n = Go.RowKit.wrap64 n := by rw [IntKind.wrap_i64]; unfold Go.RowKit.wrap64; omega

def Ty (P : Program) (t : TypeId) (size bytes : Nat) (z : Value) : Prop := ∃ i, P.info? t = some i ∧ i.size = size ∧ i.bytes = bytes ∧ i.zero = some z

theorem Ty.of {P : Program} {t : TypeId} {size bytes : Nat} {z : Value} (h : (P.info? t).map (fun i => (i.size, i.bytes, i.zero)) = some (size, bytes, some z)) : Ty P t size bytes z := by
  cases hi : P.info? t with
  | none => rw [hi] at h; cases h
  | some i =>
    rw [hi] at h
    simp only [Option.map_some, Option.some.injEq, Prod.mk.injEq] at h
    exact ⟨i, hi, h.1, h.2.1, h.2.2⟩

section
variable {P : Program} {m N : Nat} {e e' : Env} {H H' H'' : List AO} {K : Env → List AO → Prop} {o : Oper} {ops : Array Oper} {rest : List Oper} {v v' : AV}

theorem L.y (hy : AYield P N o e H v) (hv : v = v') (hp : put N e o.dst v' = e') (hw : wantA ops e o true) (hn : AList P m N ops rest e' H K) : AList P m N ops (o :: rest) e H K := by
  subst hv; subst hp; exact AList.op hw hy.step hn
theorem L.s (hs : AStep P N o e H v H') (hv : v = v') (hH : H' = H'') (hp : put N e o.dst v' = e') (hw : wantA ops e o true) (hn : AList P m N ops rest e' H'' K) : AList P m N ops (o :: rest) e H K := by
  subst hv; subst hH; subst hp; exact AList.op hw hs hn
end

/-- Where the walk stands, seen as another standing (fewer objects, rows lent for good, empty rows that are nil). -/
structure Part (m : Nat) (e : Env) (H : List AO) (e0 : Env) (H0 : List AO) where
  ns : List (TypeId × Nat)
  ρ : List Nat
  nd : ρ.Nodup
  hs : SubH true ρ (H ++ ns.map fun p => .nil p.1 p.2) ρ H0
  base : ∀ j, j < m → j < H.length → ρ[j]? = some j
  he : SubE true ρ (H ++ ns.map fun p => .nil p.1 p.2) e e0

def IsPart (m : Nat) (e : Env) (H : List AO) (e0 : Env) (H0 : List AO) : Prop := Nonempty (Part m e H e0 H0)

section
variable {R F : Nat → Prop} {A : Nat → Value} {w : World} {N : Nat} {a : Act}

theorem Inv.nils {e : Env} : ∀ (ns : List (TypeId × Nat)) {H : List AO} {A : Nat → Value}, Inv R F A H w → EnvOk R A H w N e a → ∃ A', Inv R F A' (H ++ ns.map fun p => .nil p.1 p.2) w ∧
    EnvOk R A' (H ++ ns.map fun p => .nil p.1 p.2) w N e a ∧ Stp H.length R F A H w R A' (H ++ ns.map fun p => .nil p.1 p.2) w ∧ (∀ i, i < H.length → A' i = A i)
  | [], H, A, hi, he => ⟨A, by simpa using hi, by simpa using he, by simpa using Stp.refl _ _ _ _ _ _, fun _ _ => rfl⟩
  | p :: ns, H, A, hi, he => by
    have h1 := Inv.push (w' := w) (c := .slice none 0 0) (o := .nil p.1 p.2) hi (by simp) (Nat.le_refl _) (fun _ _ => rfl) rfl rfl rfl (fun b hb => by simp [blk] at hb) (fun _ => rfl)
    obtain ⟨A', h2, h3, h4, h5⟩ := Inv.nils ns h1.1 (he.stp h1.2)
    refine ⟨A', by simpa using h2, by simpa using h3, ?_, fun i hi => ?_⟩
    · have h6 : Stp H.length R F (fun i => if i = H.length then .slice none 0 0 else A i) (H ++ [.nil p.1 p.2]) w R A' (H ++ [.nil p.1 p.2] ++ ns.map fun p => .nil p.1 p.2) w := h4.any
      simpa using h1.2.trans h6
    · rw [h5 i (by simp; omega), if_neg (by omega)]
end

section
variable {P : Program} {m N : Nat} {c : Code} {Q : Exit → Env → List AO → Prop} {e e0 : Env} {H H0 : List AO}

theorem AWp.isPart (hp : IsPart m e H e0 H0) (h : AWp P m N c e0 H0 Q) : AWp P m N c e H Q := by
  obtain ⟨⟨ns, ρ, nd, hs, base, he⟩⟩ := hp
  intro R F A w a hi hE
  obtain ⟨A1, h1, h2, h3, h4⟩ := Inv.nils ns hi hE
  have hmin : ∀ j, j < min m H.length → j < (H ++ ns.map fun p => AO.nil p.1 p.2).length → ρ[j]? = some j := fun j hj _ => base j (by omega) (by omega)
  -- only the objects that stood before have to go on
  have hres := AWp.part (m := min m H.length) (Q := Q) (P := P) (N := N) (c := c) ρ nd hs hmin he (fun R F A w a hi hE => wp_mono (h R F A w a hi hE) fun _ _ _ ⟨e', H', R', A', q1, q2, q3, q4⟩ => ⟨e', H', R', A', q1, q2, q3, q4.weak (Nat.min_le_left _ _)⟩) R F A1 w a h1 h2
  refine wp_mono hres ?_
  rintro x a' w' ⟨e', H', R', A', q1, q2, q3, q4⟩
  have h3' : Stp (min m H.length) R F A H w R A1 (H ++ ns.map fun p => AO.nil p.1 p.2) w := h3.weak (Nat.min_le_right _ _)
  have h5 := h3'.trans q4
  exact ⟨e', H', R', A', q1, q2, q3, ⟨h5.rr, h5.keep, fun i o hlt ho => h5.ext i o (by have := (List.getElem?_eq_some_iff.1 ho).1; omega) ho, h5.os, h5.tape, h5.output, h5.size⟩⟩

/-- A loop: whatever way leads to its head, what is known there is one of 'I'; the number goes down. -/
theorem AWp.loopI (I : Nat → Env → List AO → Prop) {k : Nat} (h0 : ∃ e0 H0, I k e0 H0 ∧ IsPart m e H e0 H0)
    (round : ∀ k e H, I k e H → AWp P m N c e H (thn (fun e' H' => ∃ k', k' < k ∧ ∃ e0 H0, I k' e0 H0 ∧ IsPart m e' H' e0 H0) Q)) : AWp P m N (.loop c) e H Q := by
  obtain ⟨e0, H0, hI, hp⟩ := h0
  exact AWp.loop (fun k e H => ∃ e0 H0, I k e0 H0 ∧ IsPart m e H e0 H0) (fun k e H ⟨e0, H0, hI, hp⟩ => AWp.isPart hp (round k e0 H0 hI)) ⟨e0, H0, hI, hp⟩

/-- Ways that meet. -/
theorem AWp.cut {y : Code} (M : Env → List AO → Prop) (h1 : AWp P m N c e H (thn (fun e' H' => ∃ e0 H0, M e0 H0 ∧ IsPart m e' H' e0 H0) Q)) (h2 : ∀ e0 H0, M e0 H0 → AWp P m N y e0 H0 Q) : AWp P m N (.seq c y) e H Q :=
  AWp.seq (h1.conseq fun x e' H' hq => by
    cases x with
    | normal => obtain ⟨e0, H0, hM, hp⟩ := hq; exact AWp.isPart hp (h2 e0 H0 hM)
    | _ => exact hq)
end

/-- What a function hands back, and what it leaves. -/
theorem ACalls.ofP {P : Program} {f : FuncId} {fn : Func} {c : Code} {avs : List AV} {H : List AO} {Q : AV → List AO → Prop} (rs : List Nat)
    (hf : P.funcs[f]? = some fn) (hb : fn.body = some c) (hn : avs.length ≤ fn.ntmps) (hres : fn.results = (rs.map ResultVar.tmp).toArray) (hlen : rs.length ≤ 4)
    (h : AWp P H.length fn.ntmps c (env0 avs 0) H (fun x e H' => (x = .normal ∨ x = .ret) ∧ ∃ e0 H0, Q (resA e0 rs) H0 ∧ IsPart H.length e H' e0 H0)) : ACalls P f avs H Q := by
  refine ACalls.of rs hf hb hn hres hlen ?_
  intro R F A w a hi he
  refine wp_mono (h R F A w a hi he) ?_
  rintro x a' w' ⟨e', H', R', A', ⟨hx, e0, H0, hq, hp⟩, hi', he', hs⟩
  -- the standing is seen as the other one: as by a piece of code that does nothing
  obtain ⟨⟨ns, ρ, nd, hsH, base, hE⟩⟩ := hp
  obtain ⟨A1, h1, h2, h3, h4⟩ := Inv.nils ns hi' he'
  have hi0 := h1.part nd hsH
  have hFL : FL true F ρ A1 (H' ++ ns.map fun p => AO.nil p.1 p.2) = F := by funext b; simp [FL]
  rw [hFL] at hi0
  have hA := hsH.hA (A := A1)
  have he1 : EnvOk (RL true R' ρ A1 (H' ++ ns.map fun p => AO.nil p.1 p.2)) (fun j => A1 (ρ.getD j 0)) H0 w' fn.ntmps e0 a' := by
    refine ⟨h2.defers, h2.size, fun p hp => ?_⟩
    obtain ⟨x, hx, hsub⟩ := hE.get p hp
    obtain ⟨c, k1, k2⟩ := h2.at_ _ hx
    exact ⟨c, k1, Sub.ok h1 (fun b hb => .inl hb) (fun hl i o b h1 h2 h3 h4 => .inr ⟨hl, i, o, h1, h2, h3, h4⟩) hA hsub k2⟩
  refine ⟨e0, H0, _, _, ⟨hx, hq⟩, hi0, he1, ⟨fun b hb => .inl (hs.rr b hb), hs.keep, ?_, hs.os, hs.tape, hs.output, hs.size⟩⟩
  intro i o hlt hio
  obtain ⟨o', k1, k2⟩ := hs.ext i o hlt hio
  have hB' := (List.getElem?_eq_some_iff.1 k1).1
  have hj := base i hlt hB'
  obtain ⟨o1, o0, q1, q2, q3⟩ := hsH.get i i hj
  rw [List.getElem?_append_left hB', k1] at q1
  cases q1
  obtain ⟨s1, s2, s3⟩ := q3.same
  refine ⟨o0, q2, ?_⟩
  rcases k2 with k2 | ⟨k2, k3, k4⟩
  · exact .inl (s3.2 k2)
  · exact .inr ⟨by omega, by rw [k3, ← s2], fun e => by
      rw [← k4 (by omega), ← h4 i hB']
      simp [List.getD_eq_getElem?_getD, hj]⟩

/-- A value and what it leads to, seen as another. -/
structure PartV (m : Nat) (r : AV) (H : List AO) (r0 : AV) (H0 : List AO) where
  ns : List (TypeId × Nat)
  ρ : List Nat
  nd : ρ.Nodup
  hs : SubH true ρ (H ++ ns.map fun p => .nil p.1 p.2) ρ H0
  base : ∀ j, j < m → j < H.length → ρ[j]? = some j
  hr : Sub true ρ (H ++ ns.map fun p => .nil p.1 p.2) r r0

def Res (P : Program) (fn : Func) (N : Nat) (e : Env) (H : List AO) (r : AV) : Prop :=
  ∀ R F A w a, Inv R F A H w → EnvOk R A H w N e a → ∃ v, (results fn a.tmps).run P w = .ok v w ∧ VR R A H w r v

theorem ACalls.ofV {P : Program} {f : FuncId} {fn : Func} {c : Code} {avs : List AV} {H : List AO} {Q : AV → List AO → Prop}
    (hf : P.funcs[f]? = some fn) (hb : fn.body = some c) (hn : avs.length ≤ fn.ntmps)
    (h : AWp P H.length fn.ntmps c (env0 avs 0) H (fun x e H' => (x = .normal ∨ x = .ret) ∧ ∃ r r0 H0, Res P fn fn.ntmps e H' r ∧ Q r0 H0 ∧ Nonempty (PartV H.length r H' r0 H0))) : ACalls P f avs H Q := by
  intro R F A w vs hi hvs
  have hl := hvs.length
  refine calls_of_wp hf hb ?_
  have he : EnvOk R A H w fn.ntmps (env0 avs 0) { tmps := vs.toArray ++ Array.replicate (fn.ntmps - vs.toArray.size) undef, defers := [] } := by
    refine ⟨rfl, by simp; omega, ?_⟩
    intro p hp
    obtain ⟨j, h1, h2⟩ := env0_mem avs 0 p hp
    obtain ⟨v, h3, h4⟩ := hvs.get j _ h2
    have hj : j < vs.length := (List.getElem?_eq_some_iff.1 h3).1
    refine ⟨v, ?_, h4⟩
    simp only [Nat.zero_add] at h1
    rw [h1, Array.getElem?_append_left (by simpa using hj)]
    simpa using h3
  refine wp_mono (h R F A w _ hi he) ?_
  rintro x a' w' ⟨e', H', R', A', ⟨hx, r, r0, H0, hres, hq, ⟨⟨ns, ρ, nd, hsH, base, hr⟩⟩⟩, hi', he', hs⟩
  obtain ⟨v, hv1, hv2⟩ := hres R' F A' w' a' hi' he'
  obtain ⟨A1, h1, h2, h3, h4⟩ := Inv.nils ns hi' he'
  have hv3 : VR R' A1 (H' ++ ns.map fun p => AO.nil p.1 p.2) w' r v := by
    have h3' : Stp H'.length R' F A' H' w' R' A1 (H' ++ ns.map fun p => AO.nil p.1 p.2) w' := h3
    exact h3'.vr hv2
  have hi0 := h1.part nd hsH
  have hFL : FL true F ρ A1 (H' ++ ns.map fun p => AO.nil p.1 p.2) = F := by funext b; simp [FL]
  rw [hFL] at hi0
  have hA := hsH.hA (A := A1)
  have hv4 := Sub.ok h1 (R0 := RL true R' ρ A1 (H' ++ ns.map fun p => AO.nil p.1 p.2)) (fun b hb => .inl hb) (fun hl i o b h1 h2 h3 h4 => .inr ⟨hl, i, o, h1, h2, h3, h4⟩) hA hr hv3
  have hst : Stp H.length R F A H w (RL true R' ρ A1 (H' ++ ns.map fun p => AO.nil p.1 p.2)) (fun j => A1 (ρ.getD j 0)) H0 w' := by
    refine ⟨fun b hb => .inl (hs.rr b hb), hs.keep, ?_, hs.os, hs.tape, hs.output, hs.size⟩
    intro i o hlt hio
    obtain ⟨o', k1, k2⟩ := hs.ext i o hlt hio
    have hB' := (List.getElem?_eq_some_iff.1 k1).1
    have hj := base i hlt hB'
    obtain ⟨o1, o0, q1, q2, q3⟩ := hsH.get i i hj
    rw [List.getElem?_append_left hB', k1] at q1
    cases q1
    obtain ⟨s1, s2, s3⟩ := q3.same
    refine ⟨o0, q2, ?_⟩
    rcases k2 with k2 | ⟨k2, k3, k4⟩
    · exact .inl (s3.2 k2)
    · exact .inr ⟨by omega, by rw [k3, ← s2], fun e => by
        rw [← k4 (by omega), ← h4 i hB']
        simp [List.getD_eq_getElem?_getD, hj]⟩
  rcases hx with rfl | rfl
  · exact ⟨he'.defers, v, hv1, v, r0, H0, _, _, rfl, hq, hi0, hv4, hst⟩
  · exact ⟨he'.defers, v, hv1, v, r0, H0, _, _, rfl, hq, hi0, hv4, hst⟩

/-- A struct that is handed back out of its variable. -/
theorem Res.cell {P : Program} {fn : Func} {N p t id et sz by_ : Nat} {zv : Value} {d : TypeDesc} {e : Env} {H : List AO} {cells : List AV} {r : AV} (hres : fn.results = #[.cell p t]) (hu : P.underlying t = some d) (hd : d.isRow = true) (ty : Ty P t sz by_ zv)
    (hp : look e p = .ptr id 0) (hH : H[id]? = some (.bx et cells)) (hl : sz = cells.length) (hr : r = .agg cells) : Res P fn N e H r := by
  subst hr
  intro R F A w a hi he
  obtain ⟨i, hinf, hs, _⟩ := ty
  have hv := he.look p
  rw [hp] at hv
  have hm : mem H (.ptr id 0) = some cells := by simp only [mem, hH, List.drop_zero]
  obtain ⟨ad, vs, h1, h2, h3, h4⟩ := mem_sound hi hv hm
  have hlen := h3.length
  refine ⟨.agg vs.toArray, ?_, by simp only [VR]; exact ⟨_, h3, rfl⟩⟩
  have hp0 : ad = ⟨ad.block, ad.off, none⟩ := by cases ad; cases h2; rfl
  have hr : w.rangeAt ad.block ad.off vs := by
    intro j v hj
    rw [← Addr.add_mid, ← hp0]
    exact h4 j v hj
  have := run_loadVar_mid (P := P) w ad.block ad.off t vs d hr hu hd (by rw [hinf]; simp; omega)
  rw [← hp0] at this
  have h1' : a.tmps[p]?.getD undef = .pointer (some ad) := by simpa using h1
  simp [results, hres, h1', asAddr, this]

def Pl (P : Program) (t : TypeId) (places : Array (Nat × Nat)) : Prop := ∀ fields, P.underlying t = some (.struct fields) → ∀ w, (fields.mapM (m := Sem) fun f => do pure (f.offset, ← sizeOf f.type)).run P w = .ok places w
theorem Ty.sizeOf {P : Program} {t : TypeId} {size bytes : Nat} {z : Value} (h : Ty P t size bytes z) (w : World) : (sizeOf t).run P w = .ok size w := by
  obtain ⟨i, h1, h2, _⟩ := h
  simp [Go.sizeOf, typeInfo, h1, h2]
theorem VRs_ints {R : Nat → Prop} {A : Nat → Value} {H : List AO} {w : World} (k : IntKind) : ∀ xs : List Int, VRs R A H w (ints k xs) (xs.map (Value.int k))
  | [] => by simp [ints, VRs]
  | x :: xs => by
    have := VRs_ints (R := R) (A := A) (H := H) (w := w) k xs
    simp only [ints, List.map_cons, VRs] at this ⊢
    exact ⟨by simp [VR], this⟩
/-- A row that came in, as a row that is only read. -/
theorem VR.came {A0 : Nat → Value} {H : List AO} {w : World} {k : IntKind} {A : Option Addr} {n c : Nat} {z : List Int}
    (h : (A = none ∧ n = 0 ∧ c = 0 ∧ z = []) ∨ ∃ x, A = some x ∧ n ≤ c ∧ c ≤ maxLen ∧ z.length = c ∧ (∀ i, i < z.length → w.cell? (x.add i) = some (.int k (z.getD i 0))) ∧ ∀ m ∈ z, (Lit.int k m).wf = true) :
    (z.take n).length = n ∧ VR (fun b => b < w.heap.size) A0 H w (.row 1 (z.take n).length false (ints k (z.take n))) (.slice A n c) := by
  rcases h with ⟨rfl, rfl, rfl, rfl⟩ | ⟨x, rfl, h1, h2, h3, h4, h5⟩
  · exact ⟨rfl, by simp [VR, ints]⟩
  · have hl : (z.take n).length = n := by rw [List.length_take]; omega
    refine ⟨hl, ?_⟩
    rw [hl]
    simp only [VR]
    refine .inr ⟨x, c, (z.take n).map (Value.int k), rfl, ?_, h1, by simp; omega, ?_, ?_⟩
    · intro hn
      have h6 := h4 0 (by omega)
      unfold World.cell? at h6
      have hb : (x.add 0).block = x.block := by unfold Addr.add; split <;> rfl
      have hs : (x.add 0).spot.isSome = x.spot.isSome := by unfold Addr.add; split <;> simp_all
      rw [hb] at h6
      split at h6
      · rename_i h7
        refine ⟨?_, ?_⟩
        · rcases Nat.lt_or_ge x.block w.heap.size with h8 | h8
          · exact h8
          · rw [Array.getElem?_eq_none h8] at h7; cases h7
        · rw [hs] at h6
          cases hx : x.spot with
          | none => rfl
          | some q => rw [hx] at h6; simp at h6
      · cases h6
    · exact VRs_ints _ _
    · intro j u hu
      rw [List.getElem?_map] at hu
      obtain ⟨y, hy, rfl⟩ := Option.map_eq_some_iff.1 hu
      have hj : j < n := by have := (List.getElem?_eq_some_iff.1 hy).1; omega
      rw [h4 j (by omega)]
      rw [List.getElem?_take_of_lt hj] at hy
      rw [List.getD_eq_getElem?_getD, hy]
      rfl
/-- A law's call: it answers true, and leaves what was there. -/
theorem ACalls.law {P : Program} {f : FuncId} {avs : List AV} {w : World} {vs : List Value} {b : Bool} (ht : TabP (fun b => b < w.heap.size) w) (h : ACalls P f avs [] (fun v H' => v = .lit (.bool b) ∧ H' = []))
    (hv : VRs (fun b => b < w.heap.size) (fun _ => .bool false) [] w avs vs) : Calls P f vs.toArray w fun e w' => e = .returned (.bool b) ∧ Below w.heap.size w w' := by
  have hi : Inv (fun b => b < w.heap.size) (fun _ => False) (fun _ => .bool false) [] w := ⟨fun _ _ h => h, fun _ h => h, fun _ h => h.elim, by simp, by simp, by simp, ht⟩
  refine (h _ _ _ w vs hi hv).mono ?_
  rintro e w' ⟨v, r, H', R', A', rfl, ⟨rfl, rfl⟩, h3, h4, h5⟩
  simp only [VR] at h4
  subst h4
  exact ⟨rfl, h5.os, h5.tape, h5.output, h5.size, fun k hk => h5.keep k (.inl hk)⟩
section
variable {R : Nat → Prop} {A : Nat → Value} {H : List AO} {w : World}
theorem VRs_nil : VRs R A H w [] [] := by simp [VRs]
theorem VRs_cons {x : AV} {v : Value} {xs : List AV} {vs : List Value} (h : VR R A H w x v) (k : VRs R A H w xs vs) : VRs R A H w (x :: xs) (v :: vs) := by simp only [VRs]; exact ⟨h, k⟩
theorem VR_lit {v : Value} : VR R A H w (.lit v) v := by simp [VR]
theorem VR_agg {xs : List AV} {vs : List Value} (h : VRs R A H w xs vs) : VR R A H w (.agg xs) (.agg vs.toArray) := by simp only [VR]; exact ⟨vs, h, rfl⟩
theorem came_fits {k : IntKind} {A : Option Addr} {n c : Nat} {z : List Int}
    (h : (A = none ∧ n = 0 ∧ c = 0 ∧ z = []) ∨ ∃ x, A = some x ∧ n ≤ c ∧ c ≤ maxLen ∧ z.length = c ∧ (∀ i, i < z.length → w.cell? (x.add i) = some (.int k (z.getD i 0))) ∧ ∀ m ∈ z, (Lit.int k m).wf = true) :
    (z.take n).length ≤ maxLen ∧ ∀ m ∈ z.take n, (Lit.int k m).wf = true := by
  rcases h with ⟨rfl, rfl, rfl, rfl⟩ | ⟨x, rfl, h1, h2, h3, h4, h5⟩
  · simp
  · exact ⟨by rw [List.length_take]; omega, fun m hm => h5 m (List.mem_of_mem_take hm)⟩
end
def resGet (tmps : Array Value) : ResultVar → Sem Value
  | .tmp t => pure (tmps.getD t undef)
  | .cell a t => do loadVar t (← asAddr (tmps.getD a undef))
def Res1 (P : Program) (rv : ResultVar) (N : Nat) (e : Env) (H : List AO) (r : AV) : Prop :=
  ∀ R F A w a, Inv R F A H w → EnvOk R A H w N e a → ∃ v, (resGet a.tmps rv).run P w = .ok v w ∧ VR R A H w r v
theorem Res.two {P : Program} {fn : Func} {N : Nat} {e : Env} {H : List AO} {ra rb : ResultVar} {x y : AV} (hres : fn.results = #[ra, rb]) (ha : Res1 P ra N e H x) (hb : Res1 P rb N e H y) : Res P fn N e H (.tup [x, y]) := by
  intro R F A w a hi he
  obtain ⟨v1, h1, k1⟩ := ha R F A w a hi he
  obtain ⟨v2, h2, k2⟩ := hb R F A w a hi he
  refine ⟨.tuple #[v1, v2], ?_, by simp only [VR, VRs]; exact ⟨[v1, v2], by simp [VRs, k1, k2], rfl⟩⟩
  have : results fn a.tmps = (do let vs ← (#[ra, rb] : Array ResultVar).mapM (resGet a.tmps); pure (if h : vs.size = 1 then vs[0] else .tuple vs)) := by
    unfold results
    rw [hres]
    rfl
  rw [this]
  simp [h1, h2]
theorem Res1.tmp {P : Program} {t N : Nat} {e : Env} {H : List AO} : Res1 P (.tmp t) N e H (look e t) := by
  intro R F A w a hi he
  refine ⟨a.tmps.getD t undef, rfl, ?_⟩
  have := he.look t
  simpa using this
theorem Res1.cell {P : Program} {N p t id et sz by_ : Nat} {zv : Value} {d : TypeDesc} {e : Env} {H : List AO} {cells : List AV} (hu : P.underlying t = some d) (hd : d.isRow = true) (ty : Ty P t sz by_ zv)
    (hp : look e p = .ptr id 0) (hH : H[id]? = some (.bx et cells)) (hl : sz = cells.length) : Res1 P (.cell p t) N e H (.agg cells) := by
  intro R F A w a hi he
  obtain ⟨i, hinf, hs, _⟩ := ty
  have hv := he.look p
  rw [hp] at hv
  have hm : mem H (.ptr id 0) = some cells := by simp only [mem, hH, List.drop_zero]
  obtain ⟨ad, vs, h1, h2, h3, h4⟩ := mem_sound hi hv hm
  have hlen := h3.length
  refine ⟨.agg vs.toArray, ?_, by simp only [VR]; exact ⟨_, h3, rfl⟩⟩
  have hp0 : ad = ⟨ad.block, ad.off, none⟩ := by cases ad; cases h2; rfl
  have hr : w.rangeAt ad.block ad.off vs := by
    intro j v hj
    rw [← Addr.add_mid, ← hp0]
    exact h4 j v hj
  have := run_loadVar_mid (P := P) w ad.block ad.off t vs d hr hu hd (by rw [hinf]; simp; omega)
  rw [← hp0] at this
  have h1' : a.tmps[p]?.getD undef = .pointer (some ad) := by simpa using h1
  simp [resGet, h1', asAddr, this]
/-- A function's number that may be called. -/
def FnOk (P : Program) (f : FuncId) : Prop := ∃ fn, P.funcs[f]? = some fn ∧ (fn.name == "runtime.NumGoroutine") = false ∧ fn.body.isSome = true
theorem FnOk.at_ {P : Program} {f : FuncId} {fn : Func} (h : P.funcs[f]? = some fn) (hn : (fn.name == "runtime.NumGoroutine") = false := by exact rfl) (hb : fn.body.isSome = true := by exact rfl) : FnOk P f := ⟨fn, h, hn, hb⟩
/-- A function of numbers that leaves the world as it is. -/
theorem ACalls.same {P : Program} {f : FuncId} {vs : List Value} {r : Value} (h : ∀ R w, TabP R w → Calls P f vs.toArray w fun e w' => e = .returned r ∧ w' = w) :
    ACalls P f (vs.map AV.lit) [] (fun v H' => v = .lit r ∧ H' = []) := by
  intro R F A w us hi hus
  have hu : us = vs := by
    have : ∀ (vs us : List Value), VRs R A [] w (vs.map AV.lit) us → us = vs := by
      intro vs
      induction vs with
      | nil => intro us k; cases us <;> simp [VRs] at k ⊢
      | cons v vs ih =>
        intro us k
        cases us with
        | nil => simp [VRs] at k
        | cons u us =>
          simp only [List.map_cons, VRs, VR] at k
          rw [k.1, ih us k.2]
    exact this vs us hus
  subst hu
  refine (h R w hi.tab).mono ?_
  rintro e w' ⟨rfl, rfl⟩
  exact ⟨r, .lit r, [], R, A, rfl, ⟨rfl, rfl⟩, hi, by simp [VR], Stp.refl ..⟩
end Go.Proofs.YtpippjgphndjmaaDoorA
