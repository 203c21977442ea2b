-- Written by a program of this session's (wip/myprint2): the functions by the kit's print, the walks by awgen.py. Lean checks it.
import Derived.Test.YtdaneldckdjjoaaDoorPFnExactNearestOfx0
import Derived.Test.YtdaneldckdjjoaaDoorPFnExactNearestOfx5
import Derived.Test.YtdaneldckdjjoaaDoorPFnExactNearestOfx8
namespace Go.Proofs.YtdaneldckdjjoaaDoor.PFnExactNearestOf
open Go.RowKit Go.Proofs.YtdaneldckdjjoaaDoorW.PrintWords Go.Proofs.YtdaneldckdjjoaaDoorW.PrintLast Go.Proofs.YtdaneldckdjjoaaDoorW.PrintMore Go.Proofs.YtdaneldckdjjoaaDoorM Go.Proofs.YtdaneldckdjjoaaDoorA Go.Proofs.YtdaneldckdjjoaaDoorT
attribute [local go_sem] max2_int min2_int max_two min_two max_three min_three max_four min_four   -- for this text's walks alone
set_option linter.unusedVariables false
set_option linter.unusedSimpArgs false

/-! ### impl_ordersOf_1: function 33 -/
/-! ### append onto a row that is seen again behind a call: in place or not -/
section
mutual
def nidV (id : Nat) : AV → Bool
 | .own i _ => i != id
 | .optr i _ _ => i != id
 | .ptr i _ => i != id
 | .row _ _ _ cells => nidVs id cells
 | .rptr cells => nidVs id cells
 | .agg cells => nidVs id cells
 | .tup cells => nidVs id cells
 | .fn _ cells => nidVs id cells
 | _ => true
def nidVs (id : Nat) : List AV → Bool
 | [] => true
 | x :: xs => nidV id x && nidVs id xs
end
def nidD (id : Nat) : DV → Bool
 | .v x => nidV id x
 | .r _ _ _ cells => nidVs id cells
def nidO (id : Nat) : AO → Bool
 | .dp _ _ _ _ cells => cells.all (nidD id)
 | .sl _ _ _ _ cells => nidVs id cells
 | .bx _ cells => nidVs id cells
 | _ => true
def nidH (id : Nat) : List AO → Nat → Bool
 | [], _ => true
 | o :: os, k => (k == id || nidO id o) && nidH id os (k + 1)
def nidE (id : Nat) : Env → Bool
 | [] => true
 | (_, x) :: e => nidV id x && nidE id e
mutual
theorem nidV_noid (id : Nat) : ∀ x : AV, noid x = true → nidV id x = true
 | .any, _ => rfl
 | .lit _, _ => rfl
 | .row s n nn cells, h => by simp only [nidV]; exact nidVs_noids id cells (by simpa only [noid] using h)
 | .rptr cells, h => by simp only [nidV]; exact nidVs_noids id cells (by simpa only [noid] using h)
 | .agg cells, h => by simp only [nidV]; exact nidVs_noids id cells (by simpa only [noid] using h)
 | .tup cells, h => by simp only [nidV]; exact nidVs_noids id cells (by simpa only [noid] using h)
 | .fn g cells, h => by simp only [nidV]; exact nidVs_noids id cells (by simpa only [noid] using h)
 | .own _ _, h => by simp [noid] at h
 | .optr _ _ _, h => by simp [noid] at h
 | .ptr _ _, h => by simp [noid] at h
theorem nidVs_noids (id : Nat) : ∀ xs : List AV, noids xs = true → nidVs id xs = true
 | [], _ => rfl
 | x :: xs, h => by
  simp only [noids, Bool.and_eq_true] at h
  simp only [nidVs, nidV_noid id x h.1, nidVs_noids id xs h.2, Bool.and_self]
end
theorem nidVs_ints (id : Nat) (k : IntKind) (xs : List Int) : nidVs id (ints k xs) = true := nidVs_noids id _ (noids_ints k xs)
theorem nidD_deep (id : Nat) (et : TypeId) : ∀ cs : List AV, noids cs = true → (cs.map (deepV et)).all (nidD id) = true
 | [], _ => rfl
 | x :: cs, h => by
  simp only [noids, Bool.and_eq_true] at h
  have e : nidD id (deepV et x) = true := by
   cases x with
   | row s n nn cells =>
    cases nn
    ·
     exact nidVs_noids id cells (by simpa only [noid] using h.1)
    ·
     exact nidV_noid id _ h.1
   | _ => exact nidV_noid id _ h.1
  simp only [List.map_cons, List.all_cons, e, nidD_deep id et cs h.2, Bool.and_self]
theorem nidD_DE {α : Type} [Enc α] (id : Nat) (et : TypeId) (xs : List α) : (DE et xs).all (nidD id) = true := nidD_deep id et _ (Enc.cells_noids xs)
theorem nidVs_enc {α : Type} [Enc α] (id : Nat) (xs : List α) : nidVs id (Enc.cells xs) = true := nidVs_noids id _ (Enc.cells_noids xs)
theorem nidH_get {id : Nat} : ∀ (H : List AO) (k i : Nat) (o : AO), nidH id H k = true → k + i ≠ id → H[i]? = some o → nidO id o = true
 | [], _, _, _, _, _, h => by simp at h
 | p :: H, k, 0, o, h, hn, hi => by
  simp only [nidH, Bool.and_eq_true, Bool.or_eq_true, beq_iff_eq] at h
  simp only [List.getElem?_cons_zero, Option.some.injEq] at hi
  subst hi
  exact h.1.resolve_left (by simpa using hn)
 | p :: H, k, i + 1, o, h, hn, hi => by
  simp only [nidH, Bool.and_eq_true] at h
  exact nidH_get H (k + 1) i o h.2 (by omega) (by simpa using hi)
theorem nidE_mem {id : Nat} : ∀ (e : Env), nidE id e = true → ∀ p ∈ e, nidV id p.2 = true
 | [], _, p, hp => by simp at hp
 | (t, x) :: e, h, p, hp => by
  simp only [nidE, Bool.and_eq_true] at h
  rcases List.mem_cons.1 hp with rfl | hp
  ·
   exact h.1
  ·
   exact nidE_mem e h.2 p hp
variable {R F : Nat → Prop} {A A' : Nat → Value} {H H' : List AO} {w : World} {id : Nat}
mutual
theorem VR.nid (hH : ∀ (i : Nat) (o : AO), i ≠ id → H[i]? = some o → H'[i]? = some o) (hA : ∀ i, i ≠ id → A' i = A i) : ∀ (x : AV) (c : Value), nidV id x = true → VR R A H w x c → VR R A' H' w x c
 | .own i k, c, hn, h => by
  simp only [nidV, bne_iff_ne, ne_eq] at hn
  simp only [VR] at h ⊢
  obtain ⟨o, h1, h2, h3⟩ := h
  exact ⟨o, hH i o hn h1, h2, by rw [hA i hn]; exact h3⟩
 | .optr i k off, c, hn, h => by
  simp only [nidV, bne_iff_ne, ne_eq] at hn
  simp only [VR] at h ⊢
  obtain ⟨o, g, h1, h2, h3⟩ := h
  exact ⟨o, g, hH i o hn h1, h2, by rw [hA i hn]; exact h3⟩
 | .ptr i off, c, hn, h => by
  simp only [nidV, bne_iff_ne, ne_eq] at hn
  simp only [VR] at h ⊢
  obtain ⟨o, g, h1, h2, h3⟩ := h
  exact ⟨o, g, hH i o hn h1, h2, by rw [hA i hn]; exact h3⟩
 | .agg cells, c, hn, h => by
  simp only [nidV] at hn
  simp only [VR] at h ⊢
  obtain ⟨vs, h1, h2⟩ := h
  exact ⟨vs, VRs.nid hH hA cells vs hn h1, h2⟩
 | .tup cells, c, hn, h => by
  simp only [nidV] at hn
  simp only [VR] at h ⊢
  obtain ⟨vs, h1, h2⟩ := h
  exact ⟨vs, VRs.nid hH hA cells vs hn h1, h2⟩
 | .fn f cells, c, hn, h => by
  simp only [nidV] at hn
  simp only [VR] at h ⊢
  obtain ⟨vs, h1, h2⟩ := h
  exact ⟨vs, VRs.nid hH hA cells vs hn h1, h2⟩
 | .any, c, _, _ => by simp [VR]
 | .lit v, c, _, h => by simpa only [VR] using h
 | .row s k nn cells, c, hn, h => by
  simp only [nidV] at hn
  simp only [VR] at h ⊢
  rcases h with h | ⟨a, cap, vs, h1, h2, h3, h4, h5, h6⟩
  ·
   exact .inl h
  ·
   exact .inr ⟨a, cap, vs, h1, h2, h3, h4, VRs.nid hH hA cells vs hn h5, h6⟩
 | .rptr cells, c, hn, h => by
  simp only [nidV] at hn
  simp only [VR] at h ⊢
  obtain ⟨a, vs, h1, h2, h3, h4, h5⟩ := h
  exact ⟨a, vs, h1, h2, h3, VRs.nid hH hA cells vs hn h4, h5⟩
theorem VRs.nid (hH : ∀ (i : Nat) (o : AO), i ≠ id → H[i]? = some o → H'[i]? = some o) (hA : ∀ i, i ≠ id → A' i = A i) : ∀ (xs : List AV) (vs : List Value), nidVs id xs = true → VRs R A H w xs vs → VRs R A' H' w xs vs
 | [], [], _, _ => by simp [VRs]
 | x :: xs, v :: vs, hn, h => by
  simp only [nidVs, Bool.and_eq_true] at hn
  simp only [VRs] at h ⊢
  exact ⟨VR.nid hH hA x v hn.1 h.1, VRs.nid hH hA xs vs hn.2 h.2⟩
 | [], _ :: _, _, h => by simp [VRs] at h
 | _ :: _, [], _, h => by simp [VRs] at h
end
theorem DRs.nid (hH : ∀ (i : Nat) (o : AO), i ≠ id → H[i]? = some o → H'[i]? = some o) (hA : ∀ i, i ≠ id → A' i = A i) : ∀ (xs : List DV) (vs : List Value), xs.all (nidD id) = true → DRs R A H w xs vs → DRs R A' H' w xs vs
 | [], [], _, _ => by simp [DRs]
 | x :: xs, v :: vs, hn, h => by
  simp only [List.all_cons, Bool.and_eq_true] at hn
  simp only [DRs] at h ⊢
  refine ⟨?_, DRs.nid hH hA xs vs hn.2 h.2⟩
  cases x with
  | v x => exact VR.nid hH hA x v hn.1 h.1
  | r e s n cs =>
   obtain ⟨us, k1, k2⟩ := h.1
   exact ⟨us, k1, VRs.nid hH hA cs us hn.1 k2⟩
 | [], _ :: _, _, h => by simp [DRs] at h
 | _ :: _, [], _, h => by simp [DRs] at h
theorem ownsRow_cut {e : TypeId} {size g n q cap : Nat} {vs : List Value} (h : w.ownsRow 0 e size (.slice (some ⟨g, 0, none⟩) (n + q) cap) (n + q) vs) : w.ownsRow 0 e size (.slice (some ⟨g, 0, none⟩) n cap) n (vs.take (n * size)) := by
 have hle : n * size ≤ (n + q) * size := Nat.mul_le_mul_right _ (by omega)
 refine ⟨by rw [List.length_take, h.1]; omega, ?_⟩
 rcases h.2 with ⟨h1, _⟩ | ⟨g', cap', cur, h1, h2, h3, h4, h5, h6, h7⟩
 ·
  simp at h1
 ·
  simp only [Value.slice.injEq, Option.some.injEq, Addr.mk.injEq, and_true, true_and] at h1
  obtain ⟨rfl, rfl⟩ := h1
  refine .inr ⟨g, cap, cur, rfl, h2, h3, by omega, h5, h6, ?_⟩
  rw [← h7, List.take_take, Nat.min_eq_left hle]
theorem VRs.take_app : ∀ {xs ys : List AV} {vs : List Value}, VRs R A H w (xs ++ ys) vs → VRs R A H w xs (vs.take xs.length)
 | [], _, vs, _ => by simp [VRs]
 | x :: xs, ys, [], h => by simp [VRs] at h
 | x :: xs, ys, v :: vs, h => by
  simp only [List.cons_append, VRs, List.length_cons, List.take_succ_cons] at h ⊢
  exact ⟨h.1, VRs.take_app h.2⟩
end
/-- What a call that was handed the longer row has to leave, for the shorter one to be seen again. -/
def BackTo (id n q : Nat) (c : Value) (et : TypeId) (size : Nat) (nn : Bool) (cells news : List AV) (t : Nat) (ts : List Nat) (K : Env → List AO → Prop) : Env → List AO → Prop := fun e' H' =>
 lookS e' t = some (.lit c) ∧ nidE id (pickE e' ts) = true ∧ (∃ nn2, H'[id]? = some (.sl et size (n + q) nn2 (cells ++ news))) ∧ nidH id H' 0 = true ∧ nidVs id cells = true ∧ K ((t, .own id n) :: pickE e' ts) (H'.set id (.sl et size n nn cells))
section
variable {R F : Nat → Prop} {A A' A1 : Nat → Value} {H H1 H' Hs : List AO} {w w1 w' : World} {P : Program} {m N : Nat} {e e' : Env} {a a' : Act} {K : Env → List AO → Prop} {l : List Oper} {ds : List Nat} {s : Sc} {g : Bool} {i : Nat}
theorem BackTo.at {R' : Nat → Prop} {id n q g0 cap : Nat} {et : TypeId} {size : Nat} {nn : Bool} {cells news : List AV} {t : Nat} {ts : List Nat} (hsl : H[id]? = some (.sl et size n nn cells)) (hc : A id = .slice (some ⟨g0, 0, none⟩) n cap) (hlen : cells.length = n * size) (hm : id < m)
  (hb : BackTo id n q (.slice (some ⟨g0, 0, none⟩) n cap) et size nn cells news t ts K e' H') (hi' : Inv R' F A' H' w') (he' : EnvOk R' A' H' w' N e' a') (hA1 : A1 id = .slice (some ⟨g0, 0, none⟩) (n + q) cap)
  (hH1 : H1[id]? = some (.sl et size (n + q) true (cells ++ news))) (hoth : ∀ (i : Nat) (o : AO), i ≠ id → H[i]? = some o → H1[i]? = some o ∧ A1 i = A i) (hst : Stp m R F A1 H1 w1 R' A' H' w') (hst0 : Stp H.length R F A H w R A1 H1 w1) :
  ∃ e2 H2 A2, K e2 H2 ∧ Inv R' F A2 H2 w' ∧ EnvOk R' A2 H2 w' N e2 a' ∧ Stp m R F A H w R' A2 H2 w' := by
 obtain ⟨k1, k2, ⟨nn2, k3⟩, k4, k5, k6⟩ := hb
 have hA' : A' id = .slice (some ⟨g0, 0, none⟩) (n + q) cap := by
  obtain ⟨o', j1, j2⟩ := hst.ext id _ hm hH1
  rw [k3] at j1
  cases j1
  rcases j2 with j2 | ⟨_, _, j2⟩
  ·
   cases j2
  ·
   rw [j2 rfl, hA1]
 have hlt : id < H'.length := (List.getElem?_eq_some_iff.1 k3).1
 refine ⟨_, _, fun j => if j = id then .slice (some ⟨g0, 0, none⟩) n cap else A' j, k6, ?_, ?_, ?_⟩
 ·
  have hget : ∀ (i : Nat) (o : AO), (H'.set id (.sl et size n nn cells))[i]? = some o → (i = id ∧ o = .sl et size n nn cells) ∨ (i ≠ id ∧ H'[i]? = some o) := by
   intro i o ho
   by_cases hid : i = id
   ·
    subst hid; rw [List.getElem?_set_self hlt] at ho; exact .inl ⟨rfl, by simpa using ho.symm⟩
   ·
    rw [List.getElem?_set_ne (Ne.symm hid)] at ho; exact .inr ⟨hid, ho⟩
  have hblk : ∀ i b, blk (if i = id then .slice (some ⟨g0, 0, none⟩) n cap else A' i) = some b → blk (A' i) = some b := by
   intro i b h
   by_cases hid : i = id
   ·
    subst hid; rw [if_pos rfl] at h; rw [hA']; exact h
   ·
    rw [if_neg hid] at h; exact h
  have hnew : ∀ (i : Nat) (o : AO), i ≠ id → H'[i]? = some o → (H'.set id (.sl et size n nn cells))[i]? = some o := fun i o hne ho => by rw [List.getElem?_set_ne (Ne.symm hne)]; exact ho
  have hAne : ∀ i, i ≠ id → (if i = id then Value.slice (some ⟨g0, 0, none⟩) n cap else A' i) = A' i := fun i hne => if_neg hne
  have hsome : ∀ (i : Nat) (o : AO) (b : Nat), (H'.set id (.sl et size n nn cells))[i]? = some o → o ≠ .gone → foot w' (if i = id then .slice (some ⟨g0, 0, none⟩) n cap else A' i) o b → ∃ o', H'[i]? = some o' ∧ o' ≠ .gone ∧ foot w' (A' i) o' b := by
   intro i o b ho hg hb
   rcases hget i o ho with ⟨rfl, rfl⟩ | ⟨hne, h⟩
   ·
    exact ⟨_, k3, by simp, .inl (hblk i b (foot_plain (fun _ => rfl) hb))⟩
   ·
    rw [if_neg hne] at hb; exact ⟨o, h, hg, hb⟩
  refine ⟨hi'.rf, hi'.rlt, hi'.flt, ?_, ?_, ?_, hi'.tab⟩
  ·
   intro i o b ho hg hb
   obtain ⟨o', h1, h2, h3⟩ := hsome i o b ho hg hb
   exact hi'.own i o' b h1 h2 h3
  ·
   intro i j o p b ho hp hgo hgp hb hc
   obtain ⟨o', h1, h2, h5⟩ := hsome i o b ho hgo hb
   obtain ⟨p', h3, h4, h6⟩ := hsome j p b hp hgp hc
   exact hi'.inj i j o' p' b h1 h3 h2 h4 h5 h6
  ·
   intro i o ho
   rcases hget i o ho with ⟨rfl, rfl⟩ | ⟨hne, ho'⟩
   ·
    obtain ⟨vs, q1, q2, q3⟩ := hi'.obj i _ k3
    rw [hA'] at q1
    rw [if_pos rfl]
    refine ⟨vs.take (n * size), ownsRow_cut q1, ?_, fun _ => by simp⟩
    rw [← hlen]
    exact VRs.nid hnew hAne _ _ k5 (VRs.take_app q2)
   ·
    have hob := hi'.obj i o ho'
    have hn := nidH_get H' 0 i o k4 (by omega) ho'
    rw [if_neg hne]
    cases o with
    | gone => trivial
    | nil e s => exact hob
    | sl e2 size2 n2 nn2 cells2 => obtain ⟨vs, q1, q2, q3⟩ := hob; exact ⟨vs, q1, VRs.nid hnew hAne _ _ hn q2, q3⟩
    | bx e2 cells2 => obtain ⟨g, vs, q1, q2, q3⟩ := hob; exact ⟨g, vs, q1, q2, VRs.nid hnew hAne _ _ hn q3⟩
    | dp e2 size2 n2 nn2 cells2 => obtain ⟨vs, q1, q2, q3, q4⟩ := hob; exact ⟨vs, q1, DRs.nid hnew hAne _ _ hn q2, q3, q4⟩
 ·
  refine ⟨he'.defers, he'.size, fun p hp => ?_⟩
  have hnew : ∀ (i : Nat) (o : AO), i ≠ id → H'[i]? = some o → (H'.set id (.sl et size n nn cells))[i]? = some o := fun i o hne ho => by rw [List.getElem?_set_ne (Ne.symm hne)]; exact ho
  rcases List.mem_cons.1 hp with rfl | hp
  ·
   obtain ⟨c, j1, j2⟩ := he'.at_ _ (lookS_mem _ _ _ k1)
   simp only [VR] at j2
   subst j2
   refine ⟨_, j1, ?_⟩
   simp only [VR]
   exact ⟨.sl et size n nn cells, by rw [List.getElem?_set_self hlt], ⟨_, _, _, rfl⟩, .inr ⟨rfl, Nat.le_refl _, fun _ => by simp⟩⟩
  ·
   obtain ⟨c, j1, j2⟩ := he'.at_ _ (pickE_mem e' ts p hp)
   exact ⟨c, j1, VR.nid hnew (fun i hne => if_neg hne) _ _ (nidE_mem _ k2 p hp) j2⟩
 ·
  have ht := hst0.any.trans hst
  refine ⟨ht.rr, ht.keep, ?_, ht.os, ht.tape, ht.output, ht.size⟩
  intro i o hlt' ho
  by_cases hid : i = id
  ·
   subst hid
   rw [hsl] at ho
   cases ho
   exact ⟨.sl et size n nn cells, by rw [List.getElem?_set_self hlt], .inr ⟨Nat.le_refl _, rfl, fun _ => by simp [hc]⟩⟩
  ·
   obtain ⟨o', j1, j2⟩ := ht.ext i o hlt' ho
   refine ⟨o', by rw [List.getElem?_set_ne (Ne.symm hid)]; exact j1, ?_⟩
   simp only [if_neg hid]
   exact j2
end
section
variable {P : Program} {m N i : Nat} {e : Env} {H Hs : List AO} {K : Env → List AO → Prop} {l : List Oper} {ds : List Nat} {o : Oper} {s : Sc} {g : Bool}
theorem AT.app {t el : TypeId} {sx x : Operand} {ti : TypeInfo} {z : Value} {id n q size : Nat} {nn : Bool} {cells news : List AV} (tt : Nat) (ts : List Nat)
  (ho : nthO l i = some o) (hw : wantA l.toArray e o true) (hop : o.op = .call { callee := .builtin .append, args := #[sx, x], argTypes := #[t, t] }) (hu : P.underlying t = some (.slice el)) (hi : P.info? el = some ti) (hz : ti.zero = some z)
  (hsz : ti.size = size) (hzs : z.cells.size = size) (hpos : 0 < size)
  (hs : ev e sx = .own id n) (hH : H[id]? = some (.sl el size n nn cells)) (hx : rowOf H (ev e x) = some (q, news)) (hone : news.all AV.one = true)
  (hb : (n + q) * ti.bytes ≤ 140737488355328) (hml : n + q ≤ maxLen) (hl : news.length = q * size) (hq : 0 < q) (hcl : cells.length = n * size)
  (hid : Hs[id]? = none ∨ Hs[id]? = some .gone) (hm : id < m)
  (h1 : ∀ c, AT P m N g Hs l ds s (put N (frzE id n (.lit c) e) o.dst (.own id (n + q))) (H.set id (.sl el size (n + q) true (cells ++ news))) (BackTo id n q c el size nn cells news tt ts K))
  (h2 : AT P m N g Hs l ds s (put N e o.dst (.own H.length (n + q))) (H ++ [.sl el size (n + q) true (cells ++ news)]) K) : AT P m N g Hs l ds (.one i s) e H K := by
 intro n' li hns hc R0 R F A w0 A0 w a G hr hg hinv he hp hA hS hG
 cases n' with
 | zero => simp [Sc.ok] at hc
 | succ n' =>
 simp only [Sc.ok, Bool.and_eq_true, beq_iff_eq] at hc
 refine wpAnyLast_all hc.1.1 (by simp) fun j hj => ?_
 simp only [List.mem_singleton] at hj
 subst hj
 unfold wpOp
 simp only [toArr ho]
 rw [if_pos (by rw [wanted_of hw he])]
 refine .inl ?_
 have hne : ∀ (i : Nat) (o : AO), o ≠ .gone → Hs[i]? = some o → i ≠ id := by
  intro i o hg hi' e
  subst e
  rcases hid with hid | hid <;> rw [hid] at hi' <;> cases hi'
  exact hg rfl
 have hvs := he.ev sx
 rw [hs] at hvs
 simp only [VR] at hvs
 obtain ⟨o1, j1, _, j2⟩ := hvs
 rw [hH] at j1
 cases j1
 have j2 := (j2.resolve_left (by simp)).2.2 rfl
 obtain ⟨vs, h3, h4, h5⟩ := hinv.obj id _ hH
 have hrow := row_sound hinv (he.ev x) hx
 have hidlt : id < H.length := (List.getElem?_eq_some_iff.1 hH).1
 obtain ⟨p, cap, us, h6, h7, h8, h9, h10⟩ := hrow.resolve_left (fun h => by omega)
 have hul := h9.length
 have hone' := ones_of h9 hone
 have hown : blk (A id) = (A id).ownBlock := by
  rcases h3.2 with ⟨h, _⟩ | ⟨g, cap, cur, h, _⟩ <;> rw [h] <;> rfl
 have hexec : ∀ v' w', (Builtin.append_ #[t, t] o.type #[A id, a.eval x]).run P w = .ok v' w' → (execOp a.eval o).run P w = .ok (.value v') w' := by
  intro v' w' hr
  unfold execOp
  rw [hop]
  simp only [resolve, invoke, builtin, Sem.run_bind, Sem.run_pure, Result.andThen_ok, List.map_toArray, List.map_cons, List.map_nil, j2, hr]
 -- a new row beside the one that stands
 have hfresh : ∀ v' w', (Builtin.append_ #[t, t] o.type #[A id, a.eval x]).run P w = .ok v' w' → w'.ownsRow 0 el size v' (n + q) (vs ++ us) → w.heap.size ≤ w'.heap.size → (∀ b, b < w.heap.size → w'.heap[b]? = w.heap[b]?) →
   w'.os = w.os → w'.tape = w.tape → w'.output = w.output → (∀ b, blk v' = some b → w.heap.size ≤ b) → v' ≠ .slice none 0 0 →
   o.wp P a w (fun a' w' => (j ∉ ds → HS R0 A0 Hs w0 w → HS R0 A0 Hs w0 w') ∧ wpAnyLast P .any l.toArray (onlyG G) (HS R0 A0 Hs w0) ds n' (li.setIfInBounds j true) a' w') (onlyG G) := by
  intro v' w' hrun how hsize hkeep hos htp hout hnew hnn
  have hpush := Inv.push (w' := w') (c := v') (o := .sl el size (n + q) true (cells ++ news)) hinv (by simp) hsize hkeep hos htp hout hnew
   (fun hst => ⟨vs ++ us, how, (hst.vrs h4).append (hst.vrs h9), fun _ => hnn⟩)
  unfold Oper.wp
  rw [hexec v' w' hrun]
  have hS' : HS R0 A0 Hs w0 w' := fun b hb => by
   rw [hkeep b (by
    rcases hb with hb | ⟨i, o, k1, k2, k3⟩
    ·
     exact hinv.rlt b (hr b hb)
    ·
     exact OInv.lt k2 (hinv.obj i o (hp i o k2 k1)) (.inl (by rw [hA i o k2 k1]; exact k3)))]
   exact hS b hb
  refine ⟨fun _ _ => hS', h2 n' _ hns hc.2 R0 R F _ w0 A0 w' _ G hr hg hpush.1 ((he.stp hpush.2).put o.dst ?_) ?_ ?_ hS' ?_⟩
  ·
   simp only [VR]
   refine ⟨.sl el size (n + q) true (cells ++ news), by simp, ?_, .inr ⟨rfl, Nat.le_refl _, fun _ => by simp⟩⟩
   rcases how.2 with ⟨h, _⟩ | ⟨g, cap, cur, h, _⟩ <;> exact ⟨_, _, _, h⟩
  ·
   intro i o hg hi'
   have := hp i o hg hi'
   rw [List.getElem?_append_left (List.getElem?_eq_some_iff.1 this).1]
   exact this
  ·
   intro i o hg hi'
   have := (List.getElem?_eq_some_iff.1 (hp i o hg hi')).1
   simp only [if_neg (show i ≠ H.length by omega)]
   exact hA i o hg hi'
  ·
   intro a'' w'' e'' H'' R'' A'' k1 k2 k3 k4
   exact hG a'' w'' e'' H'' R'' A'' k1 k2 k3 (hpush.2.any.trans k4)
 rw [h6] at hfresh hexec
 rcases h3.2 with ⟨h11, h12⟩ | ⟨g0, cap', cur, h11, _, hg', hnc, _⟩
 ·
  -- nothing yet
  have hv0 : vs = [] := List.eq_nil_of_length_eq_zero (by have := h3.1; simpa [h12] using this)
  subst hv0
  rw [h11] at hfresh hexec
  have h3' : w.ownsRow w.heap.size el size (.slice none 0 0) n [] := by subst h12; exact World.ownsRow_nil _ _ _ _
  obtain ⟨v', w', k1, k2, k3, k4⟩ := run_append_own (P := P) w w.heap.size t o.type el ti z size ti.bytes hu hi hz hsz rfl hzs hpos (.slice none 0 0) n [] h3' p q cap us (by omega) h10 hone' hml hb (Nat.le_refl _)
  have hnn : v' ≠ .slice none 0 0 := fun h => by have := (k4.1 h).2; omega
  refine hfresh v' w' k1 ⟨k2.1, ?_⟩ k3.size (fun b hb => k3.block b hb (by simp [Value.ownBlock])) k3.os k3.tape k3.output (fun b hb => ?_) hnn
  ·
   rcases k2.2 with q | ⟨g, cap, cur, q1, q2, q3⟩
   ·
    exact .inl q
   ·
    exact .inr ⟨g, cap, cur, q1, Nat.zero_le _, q3⟩
  ·
   rcases k2.2 with ⟨q, _⟩ | ⟨g, cap, cur, q1, q2, q3⟩
   ·
    rw [q] at hb; simp [blk] at hb
   ·
    rw [q1] at hb; simp only [blk, Option.some.injEq] at hb; omega
 ·
  by_cases hroom : n + q ≤ cap'
  ·
   -- in place
   rw [h11] at h3 hexec
   obtain ⟨w', k1, k2, k3⟩ := run_append_fits (P := P) w 0 t o.type el ti size hu hi hsz g0 n cap' vs h3 p q cap us (by omega) h10 hone' hroom
   have hupd := Inv.upd (w' := w') (c := .slice (some ⟨g0, 0, none⟩) (n + q) cap') (o := .sl el size (n + q) true (cells ++ news)) hinv hH (by simp) (by simp) rfl (by simp [AO.len]) (fun h => by simp [AO.len] at h; omega)
    k3.size (fun b hb hne => k3.block b hb (by rw [h11] at hne; exact fun e => hne e.symm)) k3.os k3.tape k3.output (fun b hb => .inr (by rw [h11]; exact hb))
    (fun hst => ⟨vs ++ us, k2, (hst.vrs h4).append (hst.vrs h9), fun _ => by simp⟩)
   have hkeep : ∀ b, b < w.heap.size → b ≠ g0 → w'.heap[b]? = w.heap[b]? := fun b hb hne => k3.block b hb (by simpa using hne)
   have hg0 : ∀ b, HB R A0 Hs b → b < w.heap.size ∧ b ≠ g0 := by
    rintro b (hb | ⟨i, o, k1, k2, k3⟩)
    ·
     exact ⟨hinv.rlt b hb, fun e => (hinv.own id _ b hH (by simp) (.inl (by rw [h11, e]; rfl))).1 hb⟩
    ·
     rw [← hA i o k2 k1] at k3
     exact ⟨OInv.lt k2 (hinv.obj i o (hp i o k2 k1)) (.inl k3), fun e => hne i o k2 k1 (hinv.inj i id o _ b (hp i o k2 k1) hH k2 (by simp) (.inl k3) (.inl (by rw [h11, e]; rfl)))⟩
   have hS' : HS R0 A0 Hs w0 w' := fun b hb => by
    have := hg0 b (hb.imp (hr b) fun h => h)
    rw [hkeep b this.1 this.2]
    exact hS b hb
   have hef : EnvOk R A H w N (frzE id n (.lit (A id)) e) a := by
    refine ⟨he.defers, he.size, ?_⟩
    have : ∀ (e : Env), (∀ p ∈ e, ∃ c, a.tmps[p.1]? = some c ∧ VR R A H w p.2 c) → ∀ p ∈ frzE id n (.lit (A id)) e, ∃ c, a.tmps[p.1]? = some c ∧ VR R A H w p.2 c := by
     intro e
     induction e with
     | nil => intro _ p hp; simp [frzE] at hp
     | cons y e ih =>
      obtain ⟨t, x⟩ := y
      intro hh p hp
      simp only [frzE] at hp
      rcases List.mem_cons.1 hp with rfl | hp
      ·
       obtain ⟨c, j1, j2⟩ := hh (t, x) (by simp)
       refine ⟨c, j1, VR.frz (id := id) (n := n) (r := .lit (A id)) (fun _ _ h => h) (fun c hc => ?_) x c j2⟩
       simp only [VR] at hc ⊢
       obtain ⟨o, q1, q2, q3⟩ := hc
       rw [hH] at q1
       cases q1
       exact (q3.resolve_left (by simp)).2.2 rfl
      ·
       exact ih (fun p hp => hh p (List.mem_cons_of_mem _ hp)) p hp
    exact this e he.at_
   unfold Oper.wp
   rw [hexec _ _ k1]
   refine ⟨fun _ _ => hS', h1 (A id) n' _ hns hc.2 R0 R F _ w0 A0 w' _ G hr hg hupd.1 ((hef.stp hupd.2).put o.dst ?_) ?_ ?_ hS' ?_⟩
   ·
    simp only [VR]
    exact ⟨.sl el size (n + q) true (cells ++ news), by simp [hidlt], ⟨_, _, _, rfl⟩, .inr ⟨rfl, Nat.le_refl _, fun _ => by simp⟩⟩
   ·
    intro i o hg hi'
    rw [List.getElem?_set_ne (Ne.symm (hne i o hg hi'))]
    exact hp i o hg hi'
   ·
    intro i o hg hi'
    simp only [if_neg (hne i o hg hi')]
    exact hA i o hg hi'
   ·
    intro a'' w'' e'' H'' R'' A'' j1 j2 j3 j4
    rw [h11] at j1
    obtain ⟨e2, H2, A2, m1, m2, m3, m4⟩ := BackTo.at (w := w) hH h11 hcl hm j1 j2 j3 (by simp) (by simp [hidlt]) (fun i o hne hio => ⟨by rw [List.getElem?_set_ne (Ne.symm hne)]; exact hio, if_neg hne⟩) j4 hupd.2
    exact hG a'' w'' e2 H2 R'' A2 m1 m2 m3 m4
  ·
   rw [h11] at h3 hfresh hexec
   obtain ⟨v', w', k1, k2, k3, k4⟩ := run_append_own (P := P) w 0 t o.type el ti z size ti.bytes hu hi hz hsz rfl hzs hpos _ n vs h3 p q cap us (by omega) h10 hone' hml hb (Nat.zero_le _)
   have k5 := run_append_grow (P := P) w t o.type el ti z hu hi hz ⟨g0, 0, none⟩ n cap' vs (by rw [hsz]; exact h3.1) (cells_slice (n := n) (m := 0) h3) p q cap us (by rw [hsz]; omega) h10 (by omega)
    (by simp only [maxLen] at hml; omega) (growslice_fits (by omega) hb)
   have k1' := k1
   rw [k5] at k1'
   injection k1' with k6 k7
   have hkp : ∀ b, b < w.heap.size → w'.heap[b]? = w.heap[b]? := fun b hb => by
    rw [← k7]
    exact heap_alloc_old _ _ hb
   refine hfresh v' w' k1 k2 k3.size hkp k3.os k3.tape k3.output (fun b hb => ?_) (by rw [← k6]; simp)
   rw [← k6] at hb
   simp only [blk, Option.some.injEq] at hb
   omega
end
theorem base6 {ρ : List Nat} {H0 : List AO} (h0 : ρ[0]? = some 0 ∨ H0[0]? = some .gone := by first | exact .inl rfl | exact .inr rfl) (h1 : ρ[1]? = some 1 ∨ H0[1]? = some .gone := by first | exact .inl rfl | exact .inr rfl) (h2 : ρ[2]? = some 2 ∨ H0[2]? = some .gone := by first | exact .inl rfl | exact .inr rfl) (h3 : ρ[3]? = some 3 ∨ H0[3]? = some .gone := by first | exact .inl rfl | exact .inr rfl) (h4 : ρ[4]? = some 4 ∨ H0[4]? = some .gone := by first | exact .inl rfl | exact .inr rfl) (h5 : ρ[5]? = some 5 ∨ H0[5]? = some .gone := by first | exact .inl rfl | exact .inr rfl) : BaseOk ρ H0 6 := (base5 h0 h1 h2 h3 h4).s h5
section
variable {P : Program} {m N i : Nat} {e : Env} {H H1 H2 Hs : List AO} {e1 : Value → Env} {e2 : Env} {K : Env → List AO → Prop} {l : List Oper} {ds : List Nat} {o : Oper} {s : Sc} {g : Bool}
theorem Dt.app {t el : TypeId} {sx x : Operand} {zv : Value} {id n n' q n2 size by_ : Nat} {nn : Bool} {cells news full : List AV} {vx : AV} (tt : Nat) (ts : List Nat) (hu : P.underlying t = some (.slice el)) (ty : Ty P el size by_ zv)
  (ho : nthO l i = some o) (hw : wantA l.toArray e o true)
  (h1 : ∀ c, AT P m N g Hs l ds s (e1 c) H1 (fun e' H' => lookS e' tt = some (.lit c) ∧ nidE id (pickE e' ts) = true ∧ (∃ nn2, H'[id]? = some (.sl el size n2 nn2 full)) ∧ nidH id H' 0 = true ∧ nidVs id cells = true ∧ K ((tt, .own id n) :: pickE e' ts) (H'.set id (.sl el size n nn cells))))
  (h2 : AT P m N g Hs l ds s e2 H2 K)
  (hop : o.op = .call { callee := .builtin .append, args := #[sx, x], argTypes := #[t, t] } := by exact rfl) (hs : ev e sx = .own id n := by first | (simp only [awset13_, awset11_, awset12_, awset9_, awset10_, awset8_, awset_, awset2_, awset3_, awset4_, awset5_, awset6_, awset7_, List.map_cons, List.map_nil, fillA, setAt, binV, List.getElem?_cons_zero, List.getElem?_cons_succ, List.getElem?_nil, List.length_append, List.append_nil, Nat.reduceAdd, Nat.reduceMul, Nat.reduceSub, Nat.reduceEqDiff, Nat.reduceLT, Nat.reduceLeDiff, reduceIte, false_and] <;> rfl) | rfl) (hy : ev e x = vx := by first | (simp only [awset13_, awset11_, awset12_, awset9_, awset10_, awset8_, awset_, awset2_, awset3_, awset4_, awset5_, awset6_, awset7_, List.map_cons, List.map_nil, fillA, setAt, binV, List.getElem?_cons_zero, List.getElem?_cons_succ, List.getElem?_nil, List.length_append, List.append_nil, Nat.reduceAdd, Nat.reduceMul, Nat.reduceSub, Nat.reduceEqDiff, Nat.reduceLT, Nat.reduceLeDiff, reduceIte, false_and] <;> rfl) | rfl) (hH : H[id]? = some (.sl el size n' nn cells) := by first | (simp only [awset13_, awset11_, awset12_, awset9_, awset10_, awset8_, awset_, awset2_, awset3_, awset4_, awset5_, awset6_, awset7_, List.map_cons, List.map_nil, fillA, setAt, binV, List.getElem?_cons_zero, List.getElem?_cons_succ, List.getElem?_nil, List.length_append, List.append_nil, Nat.reduceAdd, Nat.reduceMul, Nat.reduceSub, Nat.reduceEqDiff, Nat.reduceLT, Nat.reduceLeDiff, reduceIte, false_and] <;> rfl) | rfl) (hn : n = n' := by first | (simp only [awset13_, awset11_, awset12_, awset9_, awset10_, awset8_, awset_, awset2_, awset3_, awset4_, awset5_, awset6_, awset7_, List.map_cons, List.map_nil, fillA, setAt, binV, List.getElem?_cons_zero, List.getElem?_cons_succ, List.getElem?_nil, List.length_append, List.append_nil, Nat.reduceAdd, Nat.reduceMul, Nat.reduceSub, Nat.reduceEqDiff, Nat.reduceLT, Nat.reduceLeDiff, reduceIte, false_and] <;> rfl) | rfl)
  (hx : rowOf H vx = some (q, news) := by first | (simp only [awset13_, awset11_, awset12_, awset9_, awset10_, awset8_, awset_, awset2_, awset3_, awset4_, awset5_, awset6_, awset7_, List.map_cons, List.map_nil, fillA, setAt, binV, List.getElem?_cons_zero, List.getElem?_cons_succ, List.getElem?_nil, List.length_append, List.append_nil, Nat.reduceAdd, Nat.reduceMul, Nat.reduceSub, Nat.reduceEqDiff, Nat.reduceLT, Nat.reduceLeDiff, reduceIte, false_and] <;> rfl) | rfl) (hzs : zv.cells.size = size := by exact rfl) (hpos : 0 < size := by decide) (hone : news.all AV.one = true := by first | (simp only [awset13_, awset11_, awset12_, awset9_, awset10_, awset8_, awset_, awset2_, awset3_, awset4_, awset5_, awset6_, awset7_, List.map_cons, List.map_nil, fillA, setAt, binV, List.getElem?_cons_zero, List.getElem?_cons_succ, List.getElem?_nil, List.length_append, List.append_nil, Nat.reduceAdd, Nat.reduceMul, Nat.reduceSub, Nat.reduceEqDiff, Nat.reduceLT, Nat.reduceLeDiff, reduceIte, false_and] <;> rfl) | rfl) (hl : news.length = q * size := by first | (simp only [awset13_, awset11_, awset12_, awset9_, awset10_, awset8_, awset_, awset2_, awset3_, awset4_, awset5_, awset6_, awset7_, List.map_cons, List.map_nil, fillA, setAt, binV, List.getElem?_cons_zero, List.getElem?_cons_succ, List.getElem?_nil, List.length_append, List.append_nil, Nat.reduceAdd, Nat.reduceMul, Nat.reduceSub, Nat.reduceEqDiff, Nat.reduceLT, Nat.reduceLeDiff, reduceIte, false_and] <;> rfl) | rfl)
  (hb : (n + q) * by_ ≤ 140737488355328 := by first | omega | (simp only [List.length_append, List.length_set, List.length_replicate, List.length_cons, List.length_nil, List.length_drop, List.length_take, rd, maxLen] at *; omega)) (hml : n + q ≤ maxLen := by first | omega | (simp only [List.length_append, List.length_set, List.length_replicate, List.length_cons, List.length_nil, List.length_drop, List.length_take, rd, maxLen] at *; omega)) (hn2 : n + q = n2 := by first | (simp only [awset13_, awset11_, awset12_, awset9_, awset10_, awset8_, awset_, awset2_, awset3_, awset4_, awset5_, awset6_, awset7_, List.map_cons, List.map_nil, fillA, setAt, binV, List.getElem?_cons_zero, List.getElem?_cons_succ, List.getElem?_nil, List.length_append, List.append_nil, Nat.reduceAdd, Nat.reduceMul, Nat.reduceSub, Nat.reduceEqDiff, Nat.reduceLT, Nat.reduceLeDiff, reduceIte, false_and] <;> rfl) | rfl) (hq : 0 < q := by decide) (hcl : cells.length = n * size := by (first | (simp only [ints_length]; omega) | first | (simp only [awset13_, awset11_, awset12_, awset9_, awset10_, awset8_, awset_, awset2_, awset3_, awset4_, awset5_, awset6_, awset7_, List.map_cons, List.map_nil, fillA, setAt, binV, List.getElem?_cons_zero, List.getElem?_cons_succ, List.getElem?_nil, List.length_append, List.append_nil, Nat.reduceAdd, Nat.reduceMul, Nat.reduceSub, Nat.reduceEqDiff, Nat.reduceLT, Nat.reduceLeDiff, reduceIte, false_and] <;> rfl) | rfl)) (hid : Hs[id]? = none ∨ Hs[id]? = some .gone := by first | exact .inl rfl | exact .inr rfl) (hm : id < m := by first | decide | simp)
  (hfull : cells ++ news = full := by first | (simp only [awset13_, awset11_, awset12_, awset9_, awset10_, awset8_, awset_, awset2_, awset3_, awset4_, awset5_, awset6_, awset7_, List.map_cons, List.map_nil, fillA, setAt, binV, List.getElem?_cons_zero, List.getElem?_cons_succ, List.getElem?_nil, List.length_append, List.append_nil, Nat.reduceAdd, Nat.reduceMul, Nat.reduceSub, Nat.reduceEqDiff, Nat.reduceLT, Nat.reduceLeDiff, reduceIte, false_and] <;> rfl) | rfl) (he1 : ∀ c, put N (frzE id n (.lit c) e) o.dst (.own id n2) = e1 c := by (intro c; first | (simp only [awset13_, awset11_, awset12_, awset9_, awset10_, awset8_, awset_, awset2_, awset3_, awset4_, awset5_, awset6_, awset7_, List.map_cons, List.map_nil, fillA, setAt, binV, List.getElem?_cons_zero, List.getElem?_cons_succ, List.getElem?_nil, List.length_append, List.append_nil, Nat.reduceAdd, Nat.reduceMul, Nat.reduceSub, Nat.reduceEqDiff, Nat.reduceLT, Nat.reduceLeDiff, reduceIte, false_and] <;> rfl) | rfl)) (hH1 : H.set id (.sl el size n2 true full) = H1 := by first | (simp only [awset13_, awset11_, awset12_, awset9_, awset10_, awset8_, awset_, awset2_, awset3_, awset4_, awset5_, awset6_, awset7_, List.map_cons, List.map_nil, fillA, setAt, binV, List.getElem?_cons_zero, List.getElem?_cons_succ, List.getElem?_nil, List.length_append, List.append_nil, Nat.reduceAdd, Nat.reduceMul, Nat.reduceSub, Nat.reduceEqDiff, Nat.reduceLT, Nat.reduceLeDiff, reduceIte, false_and] <;> rfl) | rfl)
  (he2 : put N e o.dst (.own H.length n2) = e2 := by first | (simp only [awset13_, awset11_, awset12_, awset9_, awset10_, awset8_, awset_, awset2_, awset3_, awset4_, awset5_, awset6_, awset7_, List.map_cons, List.map_nil, fillA, setAt, binV, List.getElem?_cons_zero, List.getElem?_cons_succ, List.getElem?_nil, List.length_append, List.append_nil, Nat.reduceAdd, Nat.reduceMul, Nat.reduceSub, Nat.reduceEqDiff, Nat.reduceLT, Nat.reduceLeDiff, reduceIte, false_and] <;> rfl) | rfl) (hH2 : H ++ [.sl el size n2 true full] = H2 := by first | (simp only [awset13_, awset11_, awset12_, awset9_, awset10_, awset8_, awset_, awset2_, awset3_, awset4_, awset5_, awset6_, awset7_, List.map_cons, List.map_nil, fillA, setAt, binV, List.getElem?_cons_zero, List.getElem?_cons_succ, List.getElem?_nil, List.length_append, List.append_nil, Nat.reduceAdd, Nat.reduceMul, Nat.reduceSub, Nat.reduceEqDiff, Nat.reduceLT, Nat.reduceLeDiff, reduceIte, false_and] <;> rfl) | rfl) : AT P m N g Hs l ds (.one i s) e H K := by
 obtain ⟨ti, hi, h5, h3, hz⟩ := ty
 subst h3; subst hn2; subst hy; subst hfull; subst hn; subst hH1; subst he2; subst hH2
 refine AT.app tt ts ho hw hop hu hi hz h5 hzs hpos hs hH hx hone hb hml hl hq hcl hid hm (fun c => ?_) h2
 rw [he1 c]
 exact h1 c
end
mutual
def impl_ordersOf_1.l0 : Nat → Int → Int → List Int → List S26 → Int → Int → Option (List S26)
 | 0, _, _, _, _, _, _ => none
 | k + 1, n, kind, ab, out, many, x => if x < many then (if Go.bits .and .i64 (shr .i64 x (ab.length : Int)) 1 = 0 then (if ab.length < 17592186044416 then ((impl_ordersOf_1.f k n kind (ab ++ [x]) out).bind fun o2 => impl_ordersOf_1.l0 k n kind ab o2 many (wrap64 (x + 1))) else none) else impl_ordersOf_1.l0 k n kind ab out many (wrap64 (x + 1))) else some out
def impl_ordersOf_1.f : Nat → Int → Int → List Int → List S26 → Option (List S26)
 | 0, _, _, _, _ => none
 | k + 1, n, kind, ab, out => if (ab.length : Int) = n then ((slices_Clone_int_int.f ab).bind fun c => (impl_isKind.f k n c kind).bind fun b => if b = true then (if out.length < 4398046511104 then some (out ++ [(⟨n, c⟩ : S26)]) else none) else some out) else (if 0 ≤ n then impl_ordersOf_1.l0 k n kind ab out (shl .i64 1 n) 0 else none)
end
theorem impl_ordersOf_1.T3 : Ty Tryd.prog 3 1 8 (.int .i64 0) := .of (by kernel_rfl)
theorem impl_ordersOf_1.T22 : Ty Tryd.prog 22 1 24 (.slice none 0 0) := .of (by kernel_rfl)
theorem impl_ordersOf_1.T26 : Ty Tryd.prog 26 2 32 (.agg #[.int .i64 0, .slice none 0 0]) := .of (by kernel_rfl)
theorem impl_ordersOf_1.T39 : Ty Tryd.prog 36 1 24 (.slice none 0 0) := .of (by kernel_rfl)
theorem impl_ordersOf_1.T143 : Ty Tryd.prog 47 1 8 .nilFunc := .of (by kernel_rfl)
theorem impl_ordersOf_1.HMx : Tryd.prog.follows .mixedOrders = true := by kernel_rfl
set_option maxRecDepth 100000 in
set_option maxHeartbeats 20000000 in
theorem impl_ordersOf_1.ac : ∀ (k : Nat) (n kind : Int) (ab : List Int) (out r : List S26) (_ : impl_ordersOf_1.f k n kind ab out = some r),
  ACalls Tryd.prog 33 [.own 0 ab.length, .ptr 1 0, .ptr 2 0, .ptr 3 0, .ptr 4 0] [.sl 3 1 ab.length true (ints .i64 ab), .bx 3 [.lit (.int .i64 n)], .bx 3 [.lit (.int .i64 kind)], .bx 36 [.own 5 out.length], .bx 47 [.fn 33 [.ptr 1 0, .ptr 2 0, .ptr 3 0, .ptr 4 0]], .dp 26 2 out.length false (DE 3 out)]
   (fun v H' => v = .tup [] ∧ H' = [.sl 3 1 ab.length true (ints .i64 ab), .bx 3 [.lit (.int .i64 n)], .bx 3 [.lit (.int .i64 kind)], .bx 36 [.own 5 r.length], .bx 47 [.fn 33 [.ptr 1 0, .ptr 2 0, .ptr 3 0, .ptr 4 0]], .dp 26 2 r.length false (DE 3 r)]) := by
 intro k
 induction k using Nat.strongRecOn with
 | _ k ih =>
 intro n kind ab out r h
 cases k with
 | zero => exact absurd h (by simp [impl_ordersOf_1.f])
 | succ k =>
 refine ACalls.ofP [] Tryd.func33 rfl (by exact Nat.le_of_ble_eq_true rfl) rfl (by decide) ?_
 simp only [Tryd.ntmps33, env0, impl_ordersOf_1.f] at h ⊢
 refine AWp.seq ?_
 refine AWp.region ?_
 refine L.Y Y.mv ?_
 refine L.Y (Y.ln Tryd.underlying22) ?_
 refine L.Y Y.asg ?_
 refine AList.nil ?_
 refine AWp.seq ?_
 refine AWp.seq ?_
 refine AWp.region ?_
 refine L.Y Y.mv ?_
 refine L.S (S.ld Tryd.underlying3) ?_
 refine L.Y Y.bin ?_
 refine AList.nil ?_
 refine W.cond (fun hb => ?_) (fun hb => ?_)
 ·
  simp only [beq_iff_eq] at hb
  rw [if_pos hb] at h
  obtain ⟨c, hc1, h⟩ := Option.bind_eq_some_iff.1 h
  obtain ⟨b, hc2, h⟩ := Option.bind_eq_some_iff.1 h
  refine AWp.seq ?_
  refine AWp.seq ?_
  apply AWp.joinX
  ·
   refine Dt.reg [] [5] (.t 0 (.y 1 (.two 2 (.y 3 (.one 4 (.last 5 .done))) 4 (.one 2 (.y 3 (.last 5 .done)))))) impl_ordersOf_1.HMx ?_
   refine Dt.T rfl wantN (D.ld Tryd.underlying3) ?_
   refine Dt.Y rfl wantN Y.mv ?_
   refine Dt.B (g1 := false) (g2 := false) rfl rfl wantN wantN ?_ ?_
   ·
    refine Ox.C true [] Tryd.func34 (slices_Clone_int_int.ac _ _ hc1) .nil ?_
    refine Dt.Y rfl wantN (Y.bd Tryd.underlying26 impl_ordersOf_1.T26 P26) ?_
    refine Dt.O (g' := false) rfl wantN ?_
    refine Ox.M (M.al impl_ordersOf_1.T26) ?_
    refine Dt.L rfl wantN ?_
    refine Op.S (S.stb impl_ordersOf_1.T26) ?_
    refine Du.nil ?_
    exact ⟨rfl, .inl ⟨rfl, rfl⟩⟩
   ·
    refine Ox.M (M.al impl_ordersOf_1.T26) ?_
    refine Dt.O (g' := false) rfl wantN ?_
    refine Ox.C true [] Tryd.func34 (slices_Clone_int_int.ac _ _ hc1) .nil ?_
    refine Dt.Y rfl wantN (Y.bd Tryd.underlying26 impl_ordersOf_1.T26 P26) ?_
    refine Dt.L rfl wantN ?_
    refine Op.S (S.stb impl_ordersOf_1.T26) ?_
    refine Du.nil ?_
    exact ⟨rfl, .inr (IsPart.at [] [0, 1, 2, 3, 4, 5, 7, 6] base6 (H.c (H.c (H.c (H.c (H.c (H.c (H.c (H.c .nil)))))))) (by repeat' first | exact .nil | refine E.c ?_))⟩
  refine AWp.seq ?_
  refine AWp.region ?_
  refine L.S (S.ldN Tryd.underlying26 impl_ordersOf_1.T26) ?_
  refine L.S (S.ld Tryd.underlying3) ?_
  refine L.C (C.callE (l := true) [] Tryd.func35 (impl_isKind.ac _ _ _ _ _ hc2) .nil ?_)
  refine AList.nil ?_
  refine W.cond (fun hb2 => ?_) (fun hb2 => ?_)
  ·
   rw [if_pos hb2] at h
   rw [Option.ite_none_right_eq_some] at h
   obtain ⟨hlim, h⟩ := h
   obtain rfl := Option.some.inj h
   refine AWp.region ?_
   refine L.S (S.ld Tryd.underlying36) ?_
   refine L.S (S.ldN Tryd.underlying26 impl_ordersOf_1.T26) ?_
   refine L.M (M.bs Tryd.underlying36 impl_ordersOf_1.T26) ?_
   refine L.S (S.apD (nn' := false) Tryd.underlying36 impl_ordersOf_1.T26) ?_
   refine L.S (S.stb impl_ordersOf_1.T39) ?_
   refine L.gv 5 6 1 out (⟨n, c⟩ : S26) ?_
   refine AList.nil ?_
   refine AWp.ret ?_
   exact ⟨.inr rfl, [], _, ⟨rfl, rfl⟩, IsPart.at [] [0, 1, 2, 3, 4, 5] base6 (H.c (H.c (H.c (H.c (H.c (H.c .nil)))))) .nil⟩
  ·
   rw [if_neg (by simp [hb2])] at h
   obtain rfl := Option.some.inj h
   refine AWp.skip ?_
   refine AWp.ret ?_
   exact ⟨.inr rfl, [], _, ⟨rfl, rfl⟩, IsPart.at [] [0, 1, 2, 3, 4, 5] base6 (H.c (H.c (H.c (H.c (H.c (H.c .nil)))))) .nil⟩
 simp only [beq_eq_false_iff_ne, ne_eq] at hb
 rw [if_neg hb] at h
 rw [Option.ite_none_right_eq_some] at h
 obtain ⟨hn0, h⟩ := h
 refine AWp.skip ?_
 refine AWp.seq ?_
 refine W.kp [0, 1, 2, 3, 4, 6] ?_
 refine AWp.region ?_
 refine L.S (S.ld Tryd.underlying3) ?_
 refine L.Y Y.bin ?_
 refine L.Y Y.mv ?_
 refine AList.nil ?_
 refine AWp.block ?_
 refine AWp.loopI (fun kk e H => kk ≤ k ∧ ∃ (out2 : List S26) (x : Int), e = [(0, .own 0 ab.length), (1, .ptr 1 0), (2, .ptr 2 0), (3, .ptr 3 0), (4, .ptr 4 0), (6, .lit (.int .i64 (ab.length : Int))), (26, .lit (.int .i64 (shl .i64 1 n))), (27, .lit (.int .i64 x))] ∧ H = [.sl 3 1 ab.length true (ints .i64 ab), .bx 3 [.lit (.int .i64 n)], .bx 3 [.lit (.int .i64 kind)], .bx 36 [.own 5 out2.length], .bx 47 [.fn 33 [.ptr 1 0, .ptr 2 0, .ptr 3 0, .ptr 4 0]], .dp 26 2 out2.length false (DE 3 out2)] ∧ impl_ordersOf_1.l0 kk n kind ab out2 (shl .i64 1 n) x = some r) (k := k)
  ⟨_, _, ⟨Nat.le_refl _, _, _, rfl, rfl, h⟩, IsPart.at [] [0, 1, 2, 3, 4, 5] base6 (H.c (H.c (H.c (H.c (H.c (H.c .nil)))))) (E.c (E.c (E.c (E.c (E.c (E.c (E.c (E.c .nil))))))))⟩ ?_
 clear h
 rintro k1 e H ⟨hk1, out2, x, rfl, rfl, h⟩
 cases k1 with
 | zero => exact absurd h (by simp [impl_ordersOf_1.l0])
 | succ k1 =>
 simp only [impl_ordersOf_1.l0] at h
 refine AWp.seq ?_
 refine AWp.region ?_
 refine L.Y Y.bin ?_
 refine AList.nil ?_
 refine AWp.seq ?_
 refine W.cond (fun hb => ?_) (fun hb => ?_)
 rotate_left
 ·
  simp only [decide_eq_false_iff_not] at hb
  rw [if_neg hb] at h
  obtain rfl := Option.some.inj h
  refine AWp.exit ?_
  exact ⟨.inl rfl, [], _, ⟨rfl, rfl⟩, IsPart.at [] [0, 1, 2, 3, 4, 5] base6 (H.c (H.c (H.c (H.c (H.c (H.c .nil)))))) .nil⟩
 simp only [decide_eq_true_eq] at hb
 rw [if_pos hb] at h
 refine AWp.skip ?_
 refine AWp.seq ?_
 refine AWp.block ?_
 refine AWp.seq ?_
 refine AWp.region ?_
 refine L.Y Y.mv ?_
 refine L.Y Y.asg ?_
 refine AList.nil ?_
 refine AWp.seq ?_
 refine AWp.region ?_
 refine L.Y Y.mv ?_
 refine L.Y Y.mv ?_
 refine L.Y Y.bin ?_
 refine L.Y Y.bin ?_
 refine L.Y Y.bin ?_
 refine AList.nil ?_
 refine W.cond (fun hb2 => ?_) (fun hb2 => ?_)
 ·
  simp only [beq_iff_eq] at hb2
  rw [if_pos hb2] at h
  rw [Option.ite_none_right_eq_some] at h
  obtain ⟨hlim, h⟩ := h
  obtain ⟨o2, hc1, h⟩ := Option.bind_eq_some_iff.1 h
  have hR := ih k1 (by omega) _ _ _ _ _ hc1
  refine W.kp [0, 1, 2, 3, 4, 6, 8, 26, 27] ?_
  refine Dt.reg [true] [5] (.t 0 (.y 1 (.y 2 (.one 3 (.one 4 (.last 5 .done)))))) impl_ordersOf_1.HMx ?_
  refine Dt.T rfl wantN (D.ld Tryd.underlying47) ?_
  refine Dt.Y rfl wantN Y.mv ?_
  refine Dt.Y rfl wantN Y.mv ?_
  refine Dt.O (g' := false) rfl wantN ?_
  refine Ox.M (M.bs Tryd.underlying22 impl_ordersOf_1.T3) ?_
  refine Dt.app (id := 0) 0 [1, 2, 3, 4, 6, 26, 27] Tryd.underlying22 impl_ordersOf_1.T3 rfl wantN (fun c => ?_) ?_
  ·
   refine Dt.L rfl wantN ?_
   refine C.callE (l := false) [0, 1, 2, 3, 4, 5] Tryd.func33 hR (H.c (H.c (H.c (H.c (H.c (H.c .nil)))))) ?_
   refine Du.nil ?_
   simp only [mergeH, updH, List.map_cons, List.map_nil, renO, renV, renVs, renVs_noids _ _ (noids_ints _ _), Enc.cells_ren, DE_ren, awset12_, rho, List.length_cons, List.length_nil, List.set_cons_zero, List.set_cons_succ, List.drop, List.append_nil]
   refine ⟨rfl, rfl, ⟨_, rfl⟩, ?_, ?_, ?_⟩
   ·
    simp only [nidH, nidO, nidVs, nidV, nidVs_ints, nidVs_enc, nidD_DE]; rfl
   ·
    simp only [nidVs_ints]
   refine AWp.region ?_
   refine L.Y Y.bin ?_
   refine L.Y Y.mv ?_
   refine AList.nil ?_
   exact ⟨k1, by omega, _, _, ⟨by omega, _, _, rfl, rfl, h⟩, IsPart.at [] [0, 1, 2, 3, 4, 5] base6 (H.c (H.c (H.c (H.c (H.c (H.c .nil)))))) (E.c (E.c (E.c (E.c (E.c (E.c (E.c (E.c .nil))))))))⟩
  ·
   refine Dt.L rfl wantN ?_
   refine C.callE (l := false) [7, 1, 2, 3, 4, 5] Tryd.func33 hR (H.c (H.c (H.c (H.c (H.c (H.c .nil)))))) ?_
   refine Du.nil ?_
   refine AWp.region ?_
   refine L.Y Y.bin ?_
   refine L.Y Y.mv ?_
   refine AList.nil ?_
   exact ⟨k1, by omega, _, _, ⟨by omega, _, _, rfl, rfl, h⟩, IsPart.at [] [0, 1, 2, 3, 4, 5] base6 (H.c (H.c (H.c (H.c (H.c (H.c .nil)))))) (E.c (E.c (E.c (E.c (E.c (E.c (E.c (E.c .nil))))))))⟩
 ·
  simp only [beq_eq_false_iff_ne, ne_eq] at hb2
  rw [if_neg hb2] at h
  refine AWp.skip ?_
  refine AWp.region ?_
  refine L.Y Y.bin ?_
  refine L.Y Y.mv ?_
  refine AList.nil ?_
  exact ⟨k1, by omega, _, _, ⟨by omega, _, _, rfl, rfl, h⟩, IsPart.at [] [0, 1, 2, 3, 4, 5] base6 (H.c (H.c (H.c (H.c (H.c (H.c .nil)))))) (E.c (E.c (E.c (E.c (E.c (E.c (E.c (E.c .nil))))))))⟩

/-! ### impl_ordersOf: function 20 -/
def impl_ordersOf.f (k : Nat) (a0 : Int) (a1 : Int) : Option (List S26) := impl_ordersOf_1.f k a0 a1 [] []
set_option maxRecDepth 100000 in
set_option maxHeartbeats 20000000 in
theorem impl_ordersOf.ac (k : Nat) (a0 : Int) (a1 : Int) (r : List S26) (h : impl_ordersOf.f k a0 a1 = some r) :
  ACalls Tryd.prog 20 [.lit (.int .i64 a0), .lit (.int .i64 a1)] [] (fun v H' => v = .own 0 r.length ∧ H' = [.dp 26 2 r.length false (DE 3 r)]) := by
 refine ACalls.ofP [4] Tryd.func20 rfl (by exact Nat.le_of_ble_eq_true rfl) rfl (by decide) ?_
 simp only [Tryd.ntmps20, env0, impl_ordersOf.f] at h ⊢
 have hR := impl_ordersOf_1.ac _ _ _ _ _ _ h
 refine AWp.seq ?_
 refine AWp.region ?_
 refine L.M M.bx ?_
 refine L.M M.bx ?_
 refine L.Y Y.asg ?_
 refine AList.nil ?_
 refine AWp.seq ?_
 refine AWp.region ?_
 refine L.M (M.bsT ([] : List S26) Tryd.underlying36 impl_ordersOf_1.T26) ?_
 refine L.dp 2 3 S26 rfl ?_
 refine L.M (M.al impl_ordersOf_1.T39) ?_
 refine L.S (S.stb impl_ordersOf_1.T39) ?_
 refine AList.nil ?_
 refine AWp.seq ?_
 refine AWp.region ?_
 refine L.M (M.al impl_ordersOf_1.T143) ?_
 refine AList.nil ?_
 refine AWp.seq ?_
 refine AWp.region ?_
 refine L.Y Y.fn ?_
 refine L.S (S.stb impl_ordersOf_1.T143) ?_
 refine AList.nil ?_
 refine AWp.seq ?_
 refine AWp.region ?_
 refine L.S (S.ld Tryd.underlying47) ?_
 refine L.M (M.bs Tryd.underlying22 impl_ordersOf_1.T3) ?_
 refine L.C (C.callE (l := false) [5, 0, 1, 3, 4, 2] Tryd.func33 hR (H.c (H.c (H.c (H.c (H.c (H.c .nil)))))) ?_)
 refine AList.nil ?_
 refine AWp.seq ?_
 refine AWp.region ?_
 refine L.S (S.ld Tryd.underlying36) ?_
 refine L.Y Y.asg ?_
 refine AList.nil ?_
 refine AWp.ret ?_
 exact ⟨.inr rfl, [(4, _)], _, ⟨rfl, rfl⟩, IsPart.at [] [2] base0 (H.c .nil) (E.c .nil)⟩

-- NOT PRINTED: function 55 (bits_OnesCount32)

/-! ### bits_OnesCount64: function 56 -/
def bits_OnesCount64.f (a0 : Int) : Option (Int) := some (Go.bits .and .i64 (wrap64 (IntKind.u64.wrap ((IntKind.u64.wrap ((IntKind.u64.wrap ((Go.bits .and .u64 (IntKind.u64.wrap (((IntKind.u64.wrap ((Go.bits .and .u64 ((IntKind.u64.wrap ((Go.bits .and .u64 (a0 / 2) 6148914691236517205) + (Go.bits .and .u64 a0 6148914691236517205))) / 4) 3689348814741910323) + (Go.bits .and .u64 (IntKind.u64.wrap ((Go.bits .and .u64 (a0 / 2) 6148914691236517205) + (Go.bits .and .u64 a0 6148914691236517205))) 3689348814741910323))) / 16) + (IntKind.u64.wrap ((Go.bits .and .u64 ((IntKind.u64.wrap ((Go.bits .and .u64 (a0 / 2) 6148914691236517205) + (Go.bits .and .u64 a0 6148914691236517205))) / 4) 3689348814741910323) + (Go.bits .and .u64 (IntKind.u64.wrap ((Go.bits .and .u64 (a0 / 2) 6148914691236517205) + (Go.bits .and .u64 a0 6148914691236517205))) 3689348814741910323))))) 1085102592571150095) + ((Go.bits .and .u64 (IntKind.u64.wrap (((IntKind.u64.wrap ((Go.bits .and .u64 ((IntKind.u64.wrap ((Go.bits .and .u64 (a0 / 2) 6148914691236517205) + (Go.bits .and .u64 a0 6148914691236517205))) / 4) 3689348814741910323) + (Go.bits .and .u64 (IntKind.u64.wrap ((Go.bits .and .u64 (a0 / 2) 6148914691236517205) + (Go.bits .and .u64 a0 6148914691236517205))) 3689348814741910323))) / 16) + (IntKind.u64.wrap ((Go.bits .and .u64 ((IntKind.u64.wrap ((Go.bits .and .u64 (a0 / 2) 6148914691236517205) + (Go.bits .and .u64 a0 6148914691236517205))) / 4) 3689348814741910323) + (Go.bits .and .u64 (IntKind.u64.wrap ((Go.bits .and .u64 (a0 / 2) 6148914691236517205) + (Go.bits .and .u64 a0 6148914691236517205))) 3689348814741910323))))) 1085102592571150095) / 256))) + ((IntKind.u64.wrap ((Go.bits .and .u64 (IntKind.u64.wrap (((IntKind.u64.wrap ((Go.bits .and .u64 ((IntKind.u64.wrap ((Go.bits .and .u64 (a0 / 2) 6148914691236517205) + (Go.bits .and .u64 a0 6148914691236517205))) / 4) 3689348814741910323) + (Go.bits .and .u64 (IntKind.u64.wrap ((Go.bits .and .u64 (a0 / 2) 6148914691236517205) + (Go.bits .and .u64 a0 6148914691236517205))) 3689348814741910323))) / 16) + (IntKind.u64.wrap ((Go.bits .and .u64 ((IntKind.u64.wrap ((Go.bits .and .u64 (a0 / 2) 6148914691236517205) + (Go.bits .and .u64 a0 6148914691236517205))) / 4) 3689348814741910323) + (Go.bits .and .u64 (IntKind.u64.wrap ((Go.bits .and .u64 (a0 / 2) 6148914691236517205) + (Go.bits .and .u64 a0 6148914691236517205))) 3689348814741910323))))) 1085102592571150095) + ((Go.bits .and .u64 (IntKind.u64.wrap (((IntKind.u64.wrap ((Go.bits .and .u64 ((IntKind.u64.wrap ((Go.bits .and .u64 (a0 / 2) 6148914691236517205) + (Go.bits .and .u64 a0 6148914691236517205))) / 4) 3689348814741910323) + (Go.bits .and .u64 (IntKind.u64.wrap ((Go.bits .and .u64 (a0 / 2) 6148914691236517205) + (Go.bits .and .u64 a0 6148914691236517205))) 3689348814741910323))) / 16) + (IntKind.u64.wrap ((Go.bits .and .u64 ((IntKind.u64.wrap ((Go.bits .and .u64 (a0 / 2) 6148914691236517205) + (Go.bits .and .u64 a0 6148914691236517205))) / 4) 3689348814741910323) + (Go.bits .and .u64 (IntKind.u64.wrap ((Go.bits .and .u64 (a0 / 2) 6148914691236517205) + (Go.bits .and .u64 a0 6148914691236517205))) 3689348814741910323))))) 1085102592571150095) / 256))) / 65536))) + ((IntKind.u64.wrap ((IntKind.u64.wrap ((Go.bits .and .u64 (IntKind.u64.wrap (((IntKind.u64.wrap ((Go.bits .and .u64 ((IntKind.u64.wrap ((Go.bits .and .u64 (a0 / 2) 6148914691236517205) + (Go.bits .and .u64 a0 6148914691236517205))) / 4) 3689348814741910323) + (Go.bits .and .u64 (IntKind.u64.wrap ((Go.bits .and .u64 (a0 / 2) 6148914691236517205) + (Go.bits .and .u64 a0 6148914691236517205))) 3689348814741910323))) / 16) + (IntKind.u64.wrap ((Go.bits .and .u64 ((IntKind.u64.wrap ((Go.bits .and .u64 (a0 / 2) 6148914691236517205) + (Go.bits .and .u64 a0 6148914691236517205))) / 4) 3689348814741910323) + (Go.bits .and .u64 (IntKind.u64.wrap ((Go.bits .and .u64 (a0 / 2) 6148914691236517205) + (Go.bits .and .u64 a0 6148914691236517205))) 3689348814741910323))))) 1085102592571150095) + ((Go.bits .and .u64 (IntKind.u64.wrap (((IntKind.u64.wrap ((Go.bits .and .u64 ((IntKind.u64.wrap ((Go.bits .and .u64 (a0 / 2) 6148914691236517205) + (Go.bits .and .u64 a0 6148914691236517205))) / 4) 3689348814741910323) + (Go.bits .and .u64 (IntKind.u64.wrap ((Go.bits .and .u64 (a0 / 2) 6148914691236517205) + (Go.bits .and .u64 a0 6148914691236517205))) 3689348814741910323))) / 16) + (IntKind.u64.wrap ((Go.bits .and .u64 ((IntKind.u64.wrap ((Go.bits .and .u64 (a0 / 2) 6148914691236517205) + (Go.bits .and .u64 a0 6148914691236517205))) / 4) 3689348814741910323) + (Go.bits .and .u64 (IntKind.u64.wrap ((Go.bits .and .u64 (a0 / 2) 6148914691236517205) + (Go.bits .and .u64 a0 6148914691236517205))) 3689348814741910323))))) 1085102592571150095) / 256))) + ((IntKind.u64.wrap ((Go.bits .and .u64 (IntKind.u64.wrap (((IntKind.u64.wrap ((Go.bits .and .u64 ((IntKind.u64.wrap ((Go.bits .and .u64 (a0 / 2) 6148914691236517205) + (Go.bits .and .u64 a0 6148914691236517205))) / 4) 3689348814741910323) + (Go.bits .and .u64 (IntKind.u64.wrap ((Go.bits .and .u64 (a0 / 2) 6148914691236517205) + (Go.bits .and .u64 a0 6148914691236517205))) 3689348814741910323))) / 16) + (IntKind.u64.wrap ((Go.bits .and .u64 ((IntKind.u64.wrap ((Go.bits .and .u64 (a0 / 2) 6148914691236517205) + (Go.bits .and .u64 a0 6148914691236517205))) / 4) 3689348814741910323) + (Go.bits .and .u64 (IntKind.u64.wrap ((Go.bits .and .u64 (a0 / 2) 6148914691236517205) + (Go.bits .and .u64 a0 6148914691236517205))) 3689348814741910323))))) 1085102592571150095) + ((Go.bits .and .u64 (IntKind.u64.wrap (((IntKind.u64.wrap ((Go.bits .and .u64 ((IntKind.u64.wrap ((Go.bits .and .u64 (a0 / 2) 6148914691236517205) + (Go.bits .and .u64 a0 6148914691236517205))) / 4) 3689348814741910323) + (Go.bits .and .u64 (IntKind.u64.wrap ((Go.bits .and .u64 (a0 / 2) 6148914691236517205) + (Go.bits .and .u64 a0 6148914691236517205))) 3689348814741910323))) / 16) + (IntKind.u64.wrap ((Go.bits .and .u64 ((IntKind.u64.wrap ((Go.bits .and .u64 (a0 / 2) 6148914691236517205) + (Go.bits .and .u64 a0 6148914691236517205))) / 4) 3689348814741910323) + (Go.bits .and .u64 (IntKind.u64.wrap ((Go.bits .and .u64 (a0 / 2) 6148914691236517205) + (Go.bits .and .u64 a0 6148914691236517205))) 3689348814741910323))))) 1085102592571150095) / 256))) / 65536))) / 4294967296)))) 127)
set_option maxRecDepth 100000 in
set_option maxHeartbeats 20000000 in
theorem bits_OnesCount64.ac (a0 : Int) (r : Int) (h : bits_OnesCount64.f a0 = some r) :
  ACalls Tryd.prog 56 [.lit (.int .u64 a0)] [] (fun v H' => v = .lit (.int .i64 r) ∧ H' = []) := by
 refine ACalls.ofP [2] Tryd.func56 rfl (by exact Nat.le_of_ble_eq_true rfl) rfl (by decide) ?_
 simp only [Tryd.ntmps56, env0, bits_OnesCount64.f] at h ⊢
 refine AWp.seq ?_
 refine AWp.region ?_
 refine L.Y Y.asg ?_
 refine AList.nil ?_
 refine AWp.seq ?_
 refine AWp.region ?_
 refine L.Y Y.mv ?_
 refine L.Y Y.bin ?_
 refine L.Y Y.bin ?_
 refine L.Y Y.mv ?_
 refine L.Y Y.bin ?_
 refine L.Y Y.bin ?_
 refine L.Y Y.asg ?_
 refine AList.nil ?_
 refine AWp.seq ?_
 refine W.kp [0, 2] ?_
 refine AWp.region ?_
 refine L.Y Y.mv ?_
 refine L.Y Y.bin ?_
 refine L.Y Y.bin ?_
 refine L.Y Y.mv ?_
 refine L.Y Y.bin ?_
 refine L.Y Y.bin ?_
 refine L.Y Y.asg ?_
 refine AList.nil ?_
 refine AWp.seq ?_
 refine W.kp [0, 2] ?_
 refine AWp.region ?_
 refine L.Y Y.mv ?_
 refine L.Y Y.bin ?_
 refine L.Y Y.mv ?_
 refine L.Y Y.bin ?_
 refine L.Y Y.bin ?_
 refine L.Y Y.asg ?_
 refine AList.nil ?_
 refine AWp.seq ?_
 refine W.kp [0, 2] ?_
 refine AWp.region ?_
 refine L.Y Y.mv ?_
 refine L.Y Y.mv ?_
 refine L.Y Y.bin ?_
 refine L.Y Y.bin ?_
 refine L.Y Y.asg ?_
 refine AList.nil ?_
 refine AWp.seq ?_
 refine W.kp [0, 2] ?_
 refine AWp.region ?_
 refine L.Y Y.mv ?_
 refine L.Y Y.mv ?_
 refine L.Y Y.bin ?_
 refine L.Y Y.bin ?_
 refine L.Y Y.asg ?_
 refine AList.nil ?_
 refine AWp.seq ?_
 refine W.kp [0, 2] ?_
 refine AWp.region ?_
 refine L.Y Y.mv ?_
 refine L.Y Y.mv ?_
 refine L.Y Y.bin ?_
 refine L.Y Y.bin ?_
 refine L.Y Y.asg ?_
 refine AList.nil ?_
 refine AWp.seq ?_
 refine W.kp [0, 2] ?_
 refine AWp.region ?_
 refine L.Y Y.mv ?_
 refine L.Y (Y.cv Tryd.underlying58 Tryd.underlying3) ?_
 refine L.Y Y.bin ?_
 refine L.Y Y.asg ?_
 refine AList.nil ?_
 obtain rfl := Option.some.inj h
 refine AWp.ret ?_
 exact ⟨.inr rfl, [(2, _)], _, ⟨rfl, rfl⟩, IsPart.at [] [] base0 .nil (E.c .nil)⟩

/-! ### bits_OnesCount: function 46 -/
def bits_OnesCount.f (a0 : Int) : Option (Int) := (bits_OnesCount64.f a0).bind fun t385 => (some t385)
set_option maxRecDepth 100000 in
set_option maxHeartbeats 20000000 in
theorem bits_OnesCount.ac (a0 : Int) (r : Int) (h : bits_OnesCount.f a0 = some r) :
  ACalls Tryd.prog 46 [.lit (.int .u64 a0)] [] (fun v H' => v = .lit (.int .i64 r) ∧ H' = []) := by
 refine ACalls.ofP [2] Tryd.func46 rfl (by exact Nat.le_of_ble_eq_true rfl) rfl (by decide) ?_
 simp only [Tryd.ntmps46, env0, bits_OnesCount.f] at h ⊢
 refine AWp.seq ?_
 refine AWp.region ?_
 refine L.Y Y.asg ?_
 refine AList.nil ?_
 refine AWp.seq ?_
 refine W.cond (fun hb => ?_) (fun hb => ?_)
 ·
  first | exact Bool.false_ne_true ((Eq.symm (by assumption)).trans hb) | exact Bool.false_ne_true (hb.symm.trans (by assumption)) | exact DD hb
 refine AWp.skip ?_
 refine AWp.seq ?_
 refine AWp.region ?_
 refine L.Y Y.mv ?_
 replace h := Option.bind_eq_some_iff.1 h
 obtain ⟨t385, hc2, h⟩ := h
 refine L.C (C.callE (l := true) [] Tryd.func56 (bits_OnesCount64.ac _ _ hc2) .nil ?_)
 refine L.Y Y.asg ?_
 refine AList.nil ?_
 obtain rfl := Option.some.inj h
 refine AWp.ret ?_
 exact ⟨.inr rfl, [(2, _)], _, ⟨rfl, rfl⟩, IsPart.at [] [] base0 .nil (E.c .nil)⟩

/-! ### impl_count: function 36 -/
def impl_count.f (a0 : Int) : Option (Int) := (bits_OnesCount.f (IntKind.u64.wrap (a0))).bind fun t386 => (some t386)
set_option maxRecDepth 100000 in
set_option maxHeartbeats 20000000 in
theorem impl_count.ac (a0 : Int) (r : Int) (h : impl_count.f a0 = some r) :
  ACalls Tryd.prog 36 [.lit (.int .i64 a0)] [] (fun v H' => v = .lit (.int .i64 r) ∧ H' = []) := by
 refine ACalls.ofP [2] Tryd.func36 rfl (by exact Nat.le_of_ble_eq_true rfl) rfl (by decide) ?_
 simp only [Tryd.ntmps36, env0, impl_count.f] at h ⊢
 refine AWp.seq ?_
 refine AWp.region ?_
 refine L.Y Y.asg ?_
 refine AList.nil ?_
 refine AWp.seq ?_
 refine AWp.region ?_
 refine L.Y Y.mv ?_
 refine L.Y (Y.cv Tryd.underlying3 Tryd.underlying51) ?_
 replace h := Option.bind_eq_some_iff.1 h
 obtain ⟨t386, hc1, h⟩ := h
 refine L.C (C.callE (l := true) [] Tryd.func46 (bits_OnesCount.ac _ _ hc1) .nil ?_)
 refine L.Y Y.asg ?_
 refine AList.nil ?_
 obtain rfl := Option.some.inj h
 refine AWp.ret ?_
 exact ⟨.inr rfl, [(2, _)], _, ⟨rfl, rfl⟩, IsPart.at [] [] base0 .nil (E.c .nil)⟩

end Go.Proofs.YtdaneldckdjjoaaDoor.PFnExactNearestOf
