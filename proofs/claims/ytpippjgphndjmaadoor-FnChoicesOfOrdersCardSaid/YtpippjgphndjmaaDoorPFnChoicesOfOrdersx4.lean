-- Written by a program of this session's (wip/myprint2): the functions by the kit's print, the walks by awgen.py. Lean checks it.
import Derived.Test.YtpippjgphndjmaaDoorPFnChoicesOfOrdersx0
import Derived.Test.YtpippjgphndjmaaDoorPFnChoicesOfOrdersx1
import Derived.Test.YtpippjgphndjmaaDoorPFnChoicesOfOrdersx3
namespace Go.Proofs.YtpippjgphndjmaaDoor.PFnChoicesOfOrders
open Go.RowKit Go.Proofs.YtpippjgphndjmaaDoorW.PrintWords Go.Proofs.YtpippjgphndjmaaDoorW.PrintLast Go.Proofs.YtpippjgphndjmaaDoorW.PrintMore Go.Proofs.YtpippjgphndjmaaDoorM Go.Proofs.YtpippjgphndjmaaDoorA Go.Proofs.YtpippjgphndjmaaDoorT
attribute [local go_sem] max2_int min2_int max_two min_two max_three min_three max_four min_four   -- for this text's walks alone
set_option linter.unusedVariables false
set_option linter.unusedSimpArgs false

/-! ### spec_l1Cur_anyOrder: function 75 -/
def spec_l1Cur_anyOrder.f (k : Nat) (s0_0 : List Int) (s0_1 : Int) (s0_2 : Int) (a1 : Int) : Option (Int × List Int × Int × Int) := (spec_l1Cur_order.f k s0_0 s0_1 s0_2 a1).bind fun bt196 => ((spec_l1Cur_pick.f s0_0 bt196.2.2.1 bt196.2.2.2 14).bind fun bt203 => (if bt203.1 = 0 then ((spec_l1Cur_relation.f k s0_0 bt203.2.1 bt203.2.2 a1).bind fun bt206 => (some (bt206.1, bt206.2.1, bt206.2.2.1, bt206.2.2.2))) else (if bt203.1 = 1 then ((spec_l1Cur_among.f s0_0 bt203.2.1 bt203.2.2 (([(-1), 0, 10, 11] : List Int))).bind fun bt215 => (some (bt215.1, bt196.2.1, bt215.2.1, bt215.2.2))) else (if bt203.1 = 2 then (if (bt196.2.1.length : Int) > 0 then ((spec_l1Cur_pick.f s0_0 bt203.2.1 bt203.2.2 (bt196.2.1.length : Int)).bind fun bt218 => (if 0 ≤ bt196.1 then ((spec_l1Cur_among.f s0_0 bt218.2.1 bt218.2.2 (([(-1), 0, 1, shl .i64 1 bt196.1] : List Int))).bind fun bt224 => (if 0 ≤ bt218.1 then (if bt218.1 < (bt196.2.1.length : Int) then (some (bt196.1, (bt196.2.1.set (bt218.1 : Int).toNat bt224.1), bt224.2.1, bt224.2.2)) else (none)) else (none))) else (none))) else (some (bt196.1, bt196.2.1, bt203.2.1, bt203.2.2))) else (if bt203.1 = 3 then ((spec_l1Cur_order.f k s0_0 bt203.2.1 bt203.2.2 10).bind fun bt228 => (some (bt228.1, bt228.2.1, bt228.2.2.1, bt228.2.2.2))) else (some (bt196.1, bt196.2.1, bt203.2.1, bt203.2.2)))))))
theorem spec_l1Cur_anyOrder.mono : ∀ a0 a1 a2 a3 k, LeO (spec_l1Cur_anyOrder.f k a0 a1 a2 a3) (spec_l1Cur_anyOrder.f (k + 1) a0 a1 a2 a3) := by
 intro a0 a1 a2 a3 k
 unfold spec_l1Cur_anyOrder.f
 repeat' first
   | (with_reducible exact spec_l1Cur_order.mono _ _ _ _ _)
   | (with_reducible exact spec_l1Cur_relation.mono _ _ _ _ _)
   | (with_reducible exact LeO.refl _)
   | (with_reducible exact LeO.none _)
   | (with_reducible refine LeO.ite ?_ ?_)
   | (with_reducible refine LeO.bind ?_ (fun _ => ?_))
   | exact spec_l1Cur_order.mono _ _ _ _ _
   | exact spec_l1Cur_relation.mono _ _ _ _ _
   | exact LeO.none _
   | refine LeO.ite ?_ ?_
   | refine LeO.bind ?_ (fun _ => ?_)
set_option maxRecDepth 100000 in
set_option maxHeartbeats 20000000 in
theorem spec_l1Cur_anyOrder.ac (k : Nat) (s0_0 : List Int) (s0_1 : Int) (s0_2 : Int) (a1 : Int) (r1 : Int) (r2 : List Int) (r3 : Int) (r4 : Int) (h : spec_l1Cur_anyOrder.f k s0_0 s0_1 s0_2 a1 = some (r1, r2, r3, r4)) :
  ACalls Tryd.prog 75 [.ptr 0 0, .lit (.int .i64 a1)] [.bx 82 [.row 1 s0_0.length false (ints .u8 s0_0), .lit (.int .i64 s0_1), .lit (.int .u64 s0_2)]] (fun v H' => v = .agg [.lit (.int .i64 r1), .own 1 r2.length] ∧ H' = [.bx 82 [.row 1 s0_0.length false (ints .u8 s0_0), .lit (.int .i64 r3), .lit (.int .u64 r4)], .sl 3 1 r2.length false (ints .i64 r2)]) := by
 refine ACalls.ofV Tryd.func75 rfl (by exact Nat.le_of_ble_eq_true rfl) ?_
 simp only [Tryd.ntmps75, env0, spec_l1Cur_anyOrder.f] at h ⊢
 pl_ h
 refine AWp.seq ?_
 refine AWp.region ?_
 refine L.M (M.al Y30) ?_
 refine AList.nil ?_
 refine AWp.seq ?_
 refine AWp.region ?_
 refine L.Y Y.mv ?_
 refine L.Y Y.mv ?_
 pl_ h
 obtain ⟨⟨t196, t197, t200, t201⟩, hc1, h⟩ := Option.bind_eq_some_iff.1 h
 dsimp only at h
 pl_ h
 refine L.C (C.callE (l := false) [0] Tryd.func125 (spec_l1Cur_order.ac _ _ _ _ _ _ _ _ _ hc1) (H.c .nil) ?_)
 refine L.M (M.al Y30) ?_
 refine L.S (S.stb Y30) ?_
 refine AList.nil ?_
 refine AWp.seq ?_
 refine AWp.seq ?_
 refine AWp.region ?_
 refine L.Y Y.mv ?_
 pl_ h
 obtain ⟨⟨t203, t204, t205⟩, hc2, h⟩ := Option.bind_eq_some_iff.1 h
 dsimp only at h
 pl_ h
 refine L.C (C.callE (l := false) [0] Tryd.func80 (spec_l1Cur_pick.ac _ _ _ _ _ _ _ hc2) (H.c .nil) ?_)
 refine AList.nil ?_
 refine AWp.block ?_
 refine AWp.seq ?_
 refine W.kp [0, 1, 4, 5, 10] ?_
 refine AWp.region ?_
 refine L.Y Y.bin ?_
 refine L.Y Y.asg ?_
 refine AList.nil ?_
 refine W.cond (fun hb => ?_) (fun hb => ?_)
 ·
  have hb3 := hb
  sb_ hb
  rw_ hb3 hb h
  pl_ h
  refine AWp.seq ?_
  refine AWp.region ?_
  refine L.Y Y.mv ?_
  refine L.Y Y.mv ?_
  pl_ h
  obtain ⟨⟨t206, t207, t210, t211⟩, hc4, h⟩ := Option.bind_eq_some_iff.1 h
  dsimp only at h
  pl_ h
  refine L.C (C.callE (l := false) [0] Tryd.func77 (spec_l1Cur_relation.ac _ _ _ _ _ _ _ _ _ hc4) (H.c .nil) ?_)
  refine L.S (S.stb Y30) ?_
  refine AList.nil ?_
  pl_ h
  simp only [Option.some.injEq, Prod.mk.injEq] at h
  obtain ⟨rfl, rfl, rfl, rfl⟩ := h
  refine AWp.ret ?_
  exact ⟨.inr rfl, _, _, _, Res.cl Tryd.underlying30 Y30, ⟨rfl, rfl⟩, PartV.at [] [0, 4] base1 (H.c (H.c .nil))⟩
 ·
  have hb3 := hb
  sb_ hb
  rw_ hb3 hb h
  pl_ h
  refine AWp.seq ?_
  refine AWp.region ?_
  refine L.Y Y.bin ?_
  refine L.Y Y.asg ?_
  refine AList.nil ?_
  refine W.cond (fun hb => ?_) (fun hb => ?_)
  ·
   have hb5 := hb
   sb_ hb
   rw_ hb5 hb h
   pl_ h
   refine AWp.region ?_
   refine L.Y Y.mv ?_
   refine L.M (M.bs Tryd.underlying22 Y3) ?_
   pl_ h
   obtain ⟨⟨t215, t216, t217⟩, hc6, h⟩ := Option.bind_eq_some_iff.1 h
   dsimp only at h
   pl_ h
   refine L.C ?_
   refine C.frz 4 ?_
   refine C.callE (l := false) [0] Tryd.func81 (spec_l1Cur_among.ac _ _ _ _ _ _ _ hc6) (H.c .nil) ?_
   refine L.Y (Y.fa (off := 0) Tryd.underlying30 Y3) ?_
   refine L.S (S.stb Y3) ?_
   refine AList.nil ?_
   refine AWp.seq ?_
   refine W.kp [0, 1, 4, 5, 10, 11, 16] ?_
   refine AWp.region ?_
   refine L.S (S.ldN Tryd.underlying30 Y30) ?_
   refine L.S (S.stb Y30) ?_
   refine AList.nil ?_
   pl_ h
   simp only [Option.some.injEq, Prod.mk.injEq] at h
   obtain ⟨rfl, rfl, rfl, rfl⟩ := h
   refine AWp.ret ?_
   exact ⟨.inr rfl, _, _, _, Res.cl Tryd.underlying30 Y30, ⟨rfl, rfl⟩, PartV.at [] [0, 2] base1 (H.c (H.c .nil))⟩
  ·
   have hb5 := hb
   sb_ hb
   rw_ hb5 hb h
   pl_ h
   refine AWp.seq ?_
   refine AWp.region ?_
   refine L.Y Y.bin ?_
   refine L.Y Y.asg ?_
   refine AList.nil ?_
   refine W.cond (fun hb => ?_) (fun hb => ?_)
   ·
    have hb7 := hb
    sb_ hb
    rw_ hb7 hb h
    pl_ h
    refine AWp.seq ?_
    refine AWp.region ?_
    refine L.Y (Y.fa (off := 1) Tryd.underlying30 Y22) ?_
    refine L.S (S.ld Tryd.underlying22) ?_
    refine L.Y (Y.ln Tryd.underlying22) ?_
    refine L.Y Y.bin ?_
    refine AList.nil ?_
    refine W.cond (fun hb => ?_) (fun hb => ?_)
    ·
     have hb8 := hb
     sb_ hb
     rw_ hb8 hb h
     pl_ h
     refine W.kp [0, 1, 4, 5, 10, 11, 16, 22, 27] ?_
     pl_ h
     obtain ⟨⟨t218, t219, t220⟩, hc9, h⟩ := Option.bind_eq_some_iff.1 h
     dsimp only at h
     pl_ h
     pl_ h
     obtain ⟨⟨t224, t225, t226⟩, hc10, h⟩ := Option.bind_eq_some_iff.1 h
     dsimp only at h
     pl_ h
     apply AWp.joinX
     ·
      refine Dt.reg [true] [14] (.y 0 (.t 1 (.y 2 (.y 3 (.t 4 (.y 5 (.y 7 (.y 8 (.t 9 (.y 10 (.two 6 (.one 11 (.one 12 (.y 13 (.last 14 .done)))) 11 (.one 6 (.one 12 (.y 13 (.last 14 .done))))))))))))))) HM ?_
      refine Dt.Y rfl wantN (Y.fa (off := 1) Tryd.underlying30 Y22) ?_
      refine Dt.T rfl wantN (D.ld Tryd.underlying22) ?_
      refine Dt.Y rfl wantN Y.mv ?_
      refine Dt.Y rfl wantN (Y.fa (off := 1) Tryd.underlying30 Y22) ?_
      refine Dt.T rfl wantN (D.ld Tryd.underlying22) ?_
      refine Dt.Y rfl wantN (Y.ln Tryd.underlying22) ?_
      refine Dt.Y rfl wantN Y.mv ?_
      refine Dt.Y rfl wantN (Y.fa (off := 0) Tryd.underlying30 Y3) ?_
      refine Dt.T rfl wantN (D.ld Tryd.underlying3) ?_
      refine Dt.Y rfl wantN Y.bin ?_
      refine Dt.B (g1 := true) (g2 := false) rfl rfl wantN wantN ?_ ?_
      ·
       skip
       refine Ox.C false [0] Tryd.func80 (spec_l1Cur_pick.ac _ _ _ _ _ _ _ hc9) (H.c .nil) ?_
       refine Dt.O (g' := false) rfl wantN ?_
       refine Ox.M (M.bs Tryd.underlying22 Y3) ?_
       refine Dt.O (g' := true) rfl wantN ?_
       refine Ox.frz (g' := true) 4 ?_
       refine Ox.C false [0] Tryd.func81 (spec_l1Cur_among.ac _ _ _ _ _ _ _ hc10) (H.c .nil) ?_
       refine Dt.Y rfl wantN (Y.ixo Tryd.underlying22 Y3) ?_
       refine Dt.L rfl wantN ?_
       refine Op.S (S.sts Y3) ?_
       refine Du.nil ?_
       exact ⟨rfl, .inl ⟨rfl, rfl⟩⟩
      ·
       skip
       refine Ox.M (M.bs Tryd.underlying22 Y3) ?_
       refine Dt.O (g' := true) rfl wantN ?_
       refine Ox.C false [0] Tryd.func80 (spec_l1Cur_pick.ac _ _ _ _ _ _ _ hc9) (H.c .nil) ?_
       refine Dt.O (g' := true) rfl wantN ?_
       refine Ox.frz (g' := true) 4 ?_
       refine Ox.C false [0] Tryd.func81 (spec_l1Cur_among.ac _ _ _ _ _ _ _ hc10) (H.c .nil) ?_
       refine Dt.Y rfl wantN (Y.ixo Tryd.underlying22 Y3) ?_
       refine Dt.L rfl wantN ?_
       refine Op.S (S.sts Y3) ?_
       refine Du.nil ?_
       exact ⟨rfl, .inr (IsPart.at [] [0, 1, 2, 3, 4] base1 (H.c (H.c (H.c (H.c (H.c .nil))))) (by repeat' first | exact .nil | refine E.c ?_))⟩
     ·
      skip
      refine AWp.seq ?_
      refine W.kp [0, 1, 4, 5, 10, 11, 16, 22, 27] ?_
      refine AWp.region ?_
      refine L.S (S.ldN Tryd.underlying30 Y30) ?_
      refine L.S (S.stb Y30) ?_
      refine AList.nil ?_
      pl_ h
      simp only [Option.some.injEq, Prod.mk.injEq] at h
      obtain ⟨rfl, rfl, rfl, rfl⟩ := h
      refine AWp.ret ?_
      exact ⟨.inr rfl, _, _, _, Res.cl Tryd.underlying30 Y30, ⟨rfl, rfl⟩, PartV.at [] [0, 2] base1 (H.c (H.c .nil))⟩
    ·
     have hb8 := hb
     sb_ hb
     rw_ hb8 hb h
     pl_ h
     refine AWp.skip ?_
     refine AWp.seq ?_
     refine W.kp [0, 1, 4, 5, 10, 11, 16, 22, 27] ?_
     refine AWp.region ?_
     refine L.S (S.ldN Tryd.underlying30 Y30) ?_
     refine L.S (S.stb Y30) ?_
     refine AList.nil ?_
     pl_ h
     simp only [Option.some.injEq, Prod.mk.injEq] at h
     obtain ⟨rfl, rfl, rfl, rfl⟩ := h
     refine AWp.ret ?_
     exact ⟨.inr rfl, _, _, _, Res.cl Tryd.underlying30 Y30, ⟨rfl, rfl⟩, PartV.at [] [0, 2] base1 (H.c (H.c .nil))⟩
   ·
    have hb7 := hb
    sb_ hb
    rw_ hb7 hb h
    pl_ h
    refine AWp.seq ?_
    refine AWp.region ?_
    refine L.Y Y.bin ?_
    refine L.Y Y.asg ?_
    refine AList.nil ?_
    refine W.cond (fun hb => ?_) (fun hb => ?_)
    ·
     have hb11 := hb
     sb_ hb
     rw_ hb11 hb h
     pl_ h
     refine AWp.seq ?_
     refine W.kp [0, 1, 4, 5, 10, 11, 16, 22, 42] ?_
     refine AWp.region ?_
     refine L.Y Y.mv ?_
     pl_ h
     obtain ⟨⟨t228, t229, t232, t233⟩, hc12, h⟩ := Option.bind_eq_some_iff.1 h
     dsimp only at h
     pl_ h
     refine L.C (C.callE (l := false) [0] Tryd.func125 (spec_l1Cur_order.ac _ _ _ _ _ _ _ _ _ hc12) (H.c .nil) ?_)
     refine L.S (S.stb Y30) ?_
     refine AList.nil ?_
     pl_ h
     simp only [Option.some.injEq, Prod.mk.injEq] at h
     obtain ⟨rfl, rfl, rfl, rfl⟩ := h
     refine AWp.ret ?_
     exact ⟨.inr rfl, _, _, _, Res.cl Tryd.underlying30 Y30, ⟨rfl, rfl⟩, PartV.at [] [0, 4] base1 (H.c (H.c .nil))⟩
    ·
     have hb11 := hb
     sb_ hb
     rw_ hb11 hb h
     pl_ h
     refine AWp.skip ?_
     refine AWp.seq ?_
     refine W.kp [0, 1, 4, 5, 10, 11, 16, 22, 42] ?_
     refine AWp.region ?_
     refine L.S (S.ldN Tryd.underlying30 Y30) ?_
     refine L.S (S.stb Y30) ?_
     refine AList.nil ?_
     pl_ h
     simp only [Option.some.injEq, Prod.mk.injEq] at h
     obtain ⟨rfl, rfl, rfl, rfl⟩ := h
     refine AWp.ret ?_
     exact ⟨.inr rfl, _, _, _, Res.cl Tryd.underlying30 Y30, ⟨rfl, rfl⟩, PartV.at [] [0, 2] base1 (H.c (H.c .nil))⟩

/-! ### spec_l1Most: function 78 -/
def spec_l1Most.f (a0 : Int) (a1 : Int) : Option (Int) := if a0 > a1 then (some a0) else (some a1)
set_option maxRecDepth 100000 in
set_option maxHeartbeats 20000000 in
theorem spec_l1Most.ac (a0 : Int) (a1 : Int) (r : Int) (h : spec_l1Most.f a0 a1 = some r) :
  ACalls Tryd.prog 78 [.lit (.int .i64 a0), .lit (.int .i64 a1)] [] (fun v H' => v = .lit (.int .i64 r) ∧ H' = []) := by
 refine ACalls.ofP [4] Tryd.func78 rfl (by exact Nat.le_of_ble_eq_true rfl) rfl (by decide) ?_
 simp only [Tryd.ntmps78, env0, spec_l1Most.f] at h ⊢
 pl_ h
 refine AWp.seq ?_
 refine AWp.region ?_
 refine L.Y Y.asg ?_
 refine AList.nil ?_
 refine AWp.seq ?_
 refine AWp.seq ?_
 refine AWp.region ?_
 refine L.Y Y.mv ?_
 refine L.Y Y.mv ?_
 refine L.Y Y.bin ?_
 refine AList.nil ?_
 refine W.cond (fun hb => ?_) (fun hb => ?_)
 ·
  have hb1 := hb
  sb_ hb
  rw_ hb1 hb h
  pl_ h
  refine AWp.seq ?_
  refine AWp.region ?_
  refine L.Y Y.mv ?_
  refine L.Y Y.asg ?_
  refine AList.nil ?_
  pl_ h
  obtain rfl := Option.some.inj h
  refine AWp.ret ?_
  exact ⟨.inr rfl, [(4, _)], _, ⟨rfl, rfl⟩, IsPart.at [] [] base0 .nil (E.c .nil)⟩
 ·
  have hb1 := hb
  sb_ hb
  rw_ hb1 hb h
  pl_ h
  refine AWp.skip ?_
  refine AWp.seq ?_
  refine AWp.region ?_
  refine L.Y Y.mv ?_
  refine L.Y Y.asg ?_
  refine AList.nil ?_
  pl_ h
  obtain rfl := Option.some.inj h
  refine AWp.ret ?_
  exact ⟨.inr rfl, [(4, _)], _, ⟨rfl, rfl⟩, IsPart.at [] [] base0 .nil (E.c .nil)⟩

/-! ### spec_l1Least: function 79 -/
def spec_l1Least.f (a0 : Int) (a1 : Int) : Option (Int) := if a0 < a1 then (some a0) else (some a1)
set_option maxRecDepth 100000 in
set_option maxHeartbeats 20000000 in
theorem spec_l1Least.ac (a0 : Int) (a1 : Int) (r : Int) (h : spec_l1Least.f a0 a1 = some r) :
  ACalls Tryd.prog 79 [.lit (.int .i64 a0), .lit (.int .i64 a1)] [] (fun v H' => v = .lit (.int .i64 r) ∧ H' = []) := by
 refine ACalls.ofP [4] Tryd.func79 rfl (by exact Nat.le_of_ble_eq_true rfl) rfl (by decide) ?_
 simp only [Tryd.ntmps79, env0, spec_l1Least.f] at h ⊢
 pl_ h
 refine AWp.seq ?_
 refine AWp.region ?_
 refine L.Y Y.asg ?_
 refine AList.nil ?_
 refine AWp.seq ?_
 refine AWp.seq ?_
 refine AWp.region ?_
 refine L.Y Y.mv ?_
 refine L.Y Y.mv ?_
 refine L.Y Y.bin ?_
 refine AList.nil ?_
 refine W.cond (fun hb => ?_) (fun hb => ?_)
 ·
  have hb1 := hb
  sb_ hb
  rw_ hb1 hb h
  pl_ h
  refine AWp.seq ?_
  refine AWp.region ?_
  refine L.Y Y.mv ?_
  refine L.Y Y.asg ?_
  refine AList.nil ?_
  pl_ h
  obtain rfl := Option.some.inj h
  refine AWp.ret ?_
  exact ⟨.inr rfl, [(4, _)], _, ⟨rfl, rfl⟩, IsPart.at [] [] base0 .nil (E.c .nil)⟩
 ·
  have hb1 := hb
  sb_ hb
  rw_ hb1 hb h
  pl_ h
  refine AWp.skip ?_
  refine AWp.seq ?_
  refine AWp.region ?_
  refine L.Y Y.mv ?_
  refine L.Y Y.asg ?_
  refine AList.nil ?_
  pl_ h
  obtain rfl := Option.some.inj h
  refine AWp.ret ?_
  exact ⟨.inr rfl, [(4, _)], _, ⟨rfl, rfl⟩, IsPart.at [] [] base0 .nil (E.c .nil)⟩

/-! ### spec_DrawChoiceOf: function 23 -/
def spec_DrawChoiceOf.j0 : Nat → List Int → Int → Int → Int → List Int → Option (Int × List Int × Int)
 | 0, _, _, _, _, _ => none
 | k + 1, x236000, x236001, x236002, x243000, x243001 => (spec_l1Least.f x243000 10).bind fun t252 => ((spec_l1Most.f 0 t252).bind fun t253 => (if 0 ≤ t253 then ((spec_l1Cur_pick.f x236000 x236001 x236002 (shl .i64 1 t253)).bind fun bt254 => ((spec_l1Cur_one.f x236000 bt254.2.1 bt254.2.2 15).bind fun bt257 => (if bt257.1 = true then ((spec_l1Cur_among.f x236000 bt257.2.1 bt257.2.2 (([(-1), shl .i64 1 t253, 4611686018427387904] : List Int))).bind fun bt263 => (some (x243000, x243001, bt263.1))) else (some (x243000, x243001, bt254.1))))) else (none)))
def spec_DrawChoiceOf.f (k : Nat) (l0 : List Int) : Option (Int × List Int × Int) := (spec_l1Cur_anyOrder.f k l0 0 0 7).bind fun bt236 => ((spec_l1Cur_one.f l0 bt236.2.2.1 bt236.2.2.2 3).bind fun bt243 => (if bt243.1 = true then ((spec_l1Cur_relation.f k l0 bt243.2.1 bt243.2.2 6).bind fun bt246 => (spec_DrawChoiceOf.j0 k l0 bt246.2.2.1 bt246.2.2.2 bt246.1 bt246.2.1)) else (spec_DrawChoiceOf.j0 k l0 bt243.2.1 bt243.2.2 bt236.1 bt236.2.1)))
theorem spec_DrawChoiceOf.mono_l : ∀ k, (∀ y0 y1 y2 y3 y4, LeO (spec_DrawChoiceOf.j0 k y0 y1 y2 y3 y4) (spec_DrawChoiceOf.j0 (k + 1) y0 y1 y2 y3 y4))
 | 0 => fun _ _ _ _ _ r h => by simp [spec_DrawChoiceOf.j0] at h
 | k + 1 => by
  have ih0 := spec_DrawChoiceOf.mono_l k
  ·
   intro y0 y1 y2 y3 y4
   unfold spec_DrawChoiceOf.j0
   repeat' first
   | (with_reducible exact ih0 _ _ _ _ _)
   | (with_reducible exact spec_l1Cur_anyOrder.mono _ _ _ _ _)
   | (with_reducible exact spec_l1Cur_relation.mono _ _ _ _ _)
   | (with_reducible exact LeO.refl _)
   | (with_reducible exact LeO.none _)
   | (with_reducible refine LeO.ite ?_ ?_)
   | (with_reducible refine LeO.bind ?_ (fun _ => ?_))
   | exact ih0 _ _ _ _ _
   | exact spec_l1Cur_anyOrder.mono _ _ _ _ _
   | exact spec_l1Cur_relation.mono _ _ _ _ _
   | exact LeO.none _
   | refine LeO.ite ?_ ?_
   | refine LeO.bind ?_ (fun _ => ?_)
theorem spec_DrawChoiceOf.mono : ∀ a0 k, LeO (spec_DrawChoiceOf.f k a0) (spec_DrawChoiceOf.f (k + 1) a0) := by
 intro a0 k
 have ih0 := spec_DrawChoiceOf.mono_l k
 unfold spec_DrawChoiceOf.f
 repeat' first
   | (with_reducible exact ih0 _ _ _ _ _)
   | (with_reducible exact spec_l1Cur_anyOrder.mono _ _ _ _ _)
   | (with_reducible exact spec_l1Cur_relation.mono _ _ _ _ _)
   | (with_reducible exact LeO.refl _)
   | (with_reducible exact LeO.none _)
   | (with_reducible refine LeO.ite ?_ ?_)
   | (with_reducible refine LeO.bind ?_ (fun _ => ?_))
   | exact ih0 _ _ _ _ _
   | exact spec_l1Cur_anyOrder.mono _ _ _ _ _
   | exact spec_l1Cur_relation.mono _ _ _ _ _
   | exact LeO.none _
   | refine LeO.ite ?_ ?_
   | refine LeO.bind ?_ (fun _ => ?_)
set_option maxRecDepth 100000 in
set_option maxHeartbeats 20000000 in
theorem spec_DrawChoiceOf.ac (k : Nat) (l0 : List Int) (r1 : Int) (r2 : List Int) (r3 : Int) (h : spec_DrawChoiceOf.f k l0 = some (r1, r2, r3)) :
  ACalls Tryd.prog 23 [.row 1 l0.length false (ints .u8 l0)] [] (fun v H' => v = .tup [.agg [.lit (.int .i64 r1), .own 0 r2.length], .lit (.int .i64 r3)] ∧ H' = [.sl 3 1 r2.length false (ints .i64 r2)]) := by
 refine ACalls.ofV Tryd.func23 rfl (by exact Nat.le_of_ble_eq_true rfl) ?_
 simp only [Tryd.ntmps23, env0, spec_DrawChoiceOf.f] at h ⊢
 pl_ h
 refine AWp.seq ?_
 refine AWp.region ?_
 refine L.M (M.al Y30) ?_
 refine L.Y Y.asg ?_
 refine AList.nil ?_
 refine AWp.seq ?_
 refine AWp.region ?_
 refine L.Y Y.mv ?_
 refine L.Y (Y.bd Tryd.underlying82 Y82 P82) ?_
 refine L.M M.bx ?_
 refine L.Y Y.asg ?_
 refine AList.nil ?_
 refine AWp.seq ?_
 refine AWp.region ?_
 refine L.Y Y.mv ?_
 pl_ h
 obtain ⟨⟨t236, t237, t240, t241⟩, hc1, h⟩ := Option.bind_eq_some_iff.1 h
 dsimp only at h
 pl_ h
 refine L.C (C.callE (l := false) [1] Tryd.func75 (spec_l1Cur_anyOrder.ac _ _ _ _ _ _ _ _ _ hc1) (H.c .nil) ?_)
 refine L.M (M.al Y30) ?_
 refine L.S (S.stb Y30) ?_
 refine AList.nil ?_
 refine AWp.seq ?_
 refine AWp.seq ?_
 refine W.kp [0, 2, 3, 4, 5] ?_
 refine AWp.region ?_
 refine L.Y Y.mv ?_
 pl_ h
 obtain ⟨⟨t243, t244, t245⟩, hc2, h⟩ := Option.bind_eq_some_iff.1 h
 dsimp only at h
 pl_ h
 refine L.C (C.callE (l := false) [1] Tryd.func76 (spec_l1Cur_one.ac _ _ _ _ _ _ _ hc2) (H.c .nil) ?_)
 refine AList.nil ?_
 refine W.cond (fun hb => ?_) (fun hb => ?_)
 ·
  have hb3 := hb
  sb_ hb
  rw_ hb3 hb h
  pl_ h
  refine AWp.region ?_
  refine L.Y Y.mv ?_
  pl_ h
  obtain ⟨⟨t246, t247, t250, t251⟩, hc4, h⟩ := Option.bind_eq_some_iff.1 h
  dsimp only at h
  pl_ h
  refine L.C (C.callE (l := false) [1] Tryd.func77 (spec_l1Cur_relation.ac _ _ _ _ _ _ _ _ _ hc4) (H.c .nil) ?_)
  refine L.S (S.stb Y30) ?_
  refine AList.nil ?_
  refine AWp.seq ?_
  refine AWp.region ?_
  refine L.Y (Y.fa (off := 0) Tryd.underlying30 Y3) ?_
  refine L.S (S.ld Tryd.underlying3) ?_
  rcases k with _ | k
  ·
   exact absurd h (by simp [spec_DrawChoiceOf.j0])
  simp only [spec_DrawChoiceOf.j0] at h
  pl_ h
  pl_ h
  obtain ⟨t252, hc5, h⟩ := Option.bind_eq_some_iff.1 h
  pl_ h
  refine L.C (C.callE (l := true) [] Tryd.func79 (spec_l1Least.ac _ _ _ hc5) .nil ?_)
  pl_ h
  obtain ⟨t253, hc6, h⟩ := Option.bind_eq_some_iff.1 h
  pl_ h
  refine L.C (C.callE (l := true) [] Tryd.func78 (spec_l1Most.ac _ _ _ hc6) .nil ?_)
  refine L.Y Y.asg ?_
  refine AList.nil ?_
  refine AWp.seq ?_
  refine W.kp [0, 2, 3, 4, 5, 6, 14] ?_
  refine AWp.region ?_
  refine L.Y Y.mv ?_
  refine L.Y Y.mv ?_
  refine L.Y Y.bin ?_
  pl_ h
  obtain ⟨⟨t254, t255, t256⟩, hc7, h⟩ := Option.bind_eq_some_iff.1 h
  dsimp only at h
  pl_ h
  refine L.C (C.callE (l := false) [1] Tryd.func80 (spec_l1Cur_pick.ac _ _ _ _ _ _ _ hc7) (H.c .nil) ?_)
  refine L.Y Y.asg ?_
  refine AList.nil ?_
  refine AWp.seq ?_
  refine AWp.seq ?_
  refine W.kp [0, 2, 3, 4, 5, 6, 7, 14] ?_
  refine AWp.region ?_
  refine L.Y Y.mv ?_
  pl_ h
  obtain ⟨⟨t257, t258, t259⟩, hc8, h⟩ := Option.bind_eq_some_iff.1 h
  dsimp only at h
  pl_ h
  refine L.C (C.callE (l := false) [1] Tryd.func76 (spec_l1Cur_one.ac _ _ _ _ _ _ _ hc8) (H.c .nil) ?_)
  refine AList.nil ?_
  refine W.cond (fun hb => ?_) (fun hb => ?_)
  ·
   have hb9 := hb
   sb_ hb
   rw_ hb9 hb h
   pl_ h
   refine AWp.region ?_
   refine L.Y Y.mv ?_
   refine L.Y Y.mv ?_
   refine L.Y Y.bin ?_
   refine L.M (M.bs Tryd.underlying22 Y3) ?_
   pl_ h
   obtain ⟨⟨t263, t264, t265⟩, hc10, h⟩ := Option.bind_eq_some_iff.1 h
   dsimp only at h
   pl_ h
   refine L.C ?_
   refine C.frz 5 ?_
   refine C.callE (l := false) [1] Tryd.func81 (spec_l1Cur_among.ac _ _ _ _ _ _ _ hc10) (H.c .nil) ?_
   refine L.Y Y.asg ?_
   refine AList.nil ?_
   refine AWp.seq ?_
   refine W.kp [0, 2, 3, 4, 5, 6, 7, 14, 26] ?_
   refine AWp.region ?_
   refine L.S (S.ldN Tryd.underlying30 Y30) ?_
   refine L.Y Y.mv ?_
   refine L.S (S.stb Y30) ?_
   refine L.Y Y.asg ?_
   refine AList.nil ?_
   pl_ h
   simp only [Option.some.injEq, Prod.mk.injEq] at h
   obtain ⟨rfl, rfl, rfl⟩ := h
   refine AWp.ret ?_
   exact ⟨.inr rfl, _, _, _, Res.c2 Tryd.underlying30 Y30, ⟨rfl, rfl⟩, PartV.at [] [4] base0 (H.c .nil)⟩
  ·
   have hb9 := hb
   sb_ hb
   rw_ hb9 hb h
   pl_ h
   refine AWp.skip ?_
   refine AWp.seq ?_
   refine AWp.region ?_
   refine L.S (S.ldN Tryd.underlying30 Y30) ?_
   refine L.Y Y.mv ?_
   refine L.S (S.stb Y30) ?_
   refine L.Y Y.asg ?_
   refine AList.nil ?_
   pl_ h
   simp only [Option.some.injEq, Prod.mk.injEq] at h
   obtain ⟨rfl, rfl, rfl⟩ := h
   refine AWp.ret ?_
   exact ⟨.inr rfl, _, _, _, Res.c2 Tryd.underlying30 Y30, ⟨rfl, rfl⟩, PartV.at [] [4] base0 (H.c .nil)⟩
 ·
  have hb3 := hb
  sb_ hb
  rw_ hb3 hb h
  pl_ h
  refine AWp.skip ?_
  refine AWp.seq ?_
  refine AWp.region ?_
  refine L.Y (Y.fa (off := 0) Tryd.underlying30 Y3) ?_
  refine L.S (S.ld Tryd.underlying3) ?_
  rcases k with _ | k
  ·
   exact absurd h (by simp [spec_DrawChoiceOf.j0])
  simp only [spec_DrawChoiceOf.j0] at h
  pl_ h
  pl_ h
  obtain ⟨t252, hc11, h⟩ := Option.bind_eq_some_iff.1 h
  pl_ h
  refine L.C (C.callE (l := true) [] Tryd.func79 (spec_l1Least.ac _ _ _ hc11) .nil ?_)
  pl_ h
  obtain ⟨t253, hc12, h⟩ := Option.bind_eq_some_iff.1 h
  pl_ h
  refine L.C (C.callE (l := true) [] Tryd.func78 (spec_l1Most.ac _ _ _ hc12) .nil ?_)
  refine L.Y Y.asg ?_
  refine AList.nil ?_
  refine AWp.seq ?_
  refine W.kp [0, 2, 3, 4, 5, 6, 14] ?_
  refine AWp.region ?_
  refine L.Y Y.mv ?_
  refine L.Y Y.mv ?_
  refine L.Y Y.bin ?_
  pl_ h
  obtain ⟨⟨t254, t255, t256⟩, hc13, h⟩ := Option.bind_eq_some_iff.1 h
  dsimp only at h
  pl_ h
  refine L.C (C.callE (l := false) [1] Tryd.func80 (spec_l1Cur_pick.ac _ _ _ _ _ _ _ hc13) (H.c .nil) ?_)
  refine L.Y Y.asg ?_
  refine AList.nil ?_
  refine AWp.seq ?_
  refine AWp.seq ?_
  refine W.kp [0, 2, 3, 4, 5, 6, 7, 14] ?_
  refine AWp.region ?_
  refine L.Y Y.mv ?_
  pl_ h
  obtain ⟨⟨t257, t258, t259⟩, hc14, h⟩ := Option.bind_eq_some_iff.1 h
  dsimp only at h
  pl_ h
  refine L.C (C.callE (l := false) [1] Tryd.func76 (spec_l1Cur_one.ac _ _ _ _ _ _ _ hc14) (H.c .nil) ?_)
  refine AList.nil ?_
  refine W.cond (fun hb => ?_) (fun hb => ?_)
  ·
   have hb15 := hb
   sb_ hb
   rw_ hb15 hb h
   pl_ h
   refine AWp.region ?_
   refine L.Y Y.mv ?_
   refine L.Y Y.mv ?_
   refine L.Y Y.bin ?_
   refine L.M (M.bs Tryd.underlying22 Y3) ?_
   pl_ h
   obtain ⟨⟨t263, t264, t265⟩, hc16, h⟩ := Option.bind_eq_some_iff.1 h
   dsimp only at h
   pl_ h
   refine L.C ?_
   refine C.frz 4 ?_
   refine C.callE (l := false) [1] Tryd.func81 (spec_l1Cur_among.ac _ _ _ _ _ _ _ hc16) (H.c .nil) ?_
   refine L.Y Y.asg ?_
   refine AList.nil ?_
   refine AWp.seq ?_
   refine W.kp [0, 2, 3, 4, 5, 6, 7, 14, 26] ?_
   refine AWp.region ?_
   refine L.S (S.ldN Tryd.underlying30 Y30) ?_
   refine L.Y Y.mv ?_
   refine L.S (S.stb Y30) ?_
   refine L.Y Y.asg ?_
   refine AList.nil ?_
   pl_ h
   simp only [Option.some.injEq, Prod.mk.injEq] at h
   obtain ⟨rfl, rfl, rfl⟩ := h
   refine AWp.ret ?_
   exact ⟨.inr rfl, _, _, _, Res.c2 Tryd.underlying30 Y30, ⟨rfl, rfl⟩, PartV.at [] [2] base0 (H.c .nil)⟩
  ·
   have hb15 := hb
   sb_ hb
   rw_ hb15 hb h
   pl_ h
   refine AWp.skip ?_
   refine AWp.seq ?_
   refine AWp.region ?_
   refine L.S (S.ldN Tryd.underlying30 Y30) ?_
   refine L.Y Y.mv ?_
   refine L.S (S.stb Y30) ?_
   refine L.Y Y.asg ?_
   refine AList.nil ?_
   pl_ h
   simp only [Option.some.injEq, Prod.mk.injEq] at h
   obtain ⟨rfl, rfl, rfl⟩ := h
   refine AWp.ret ?_
   exact ⟨.inr rfl, _, _, _, Res.c2 Tryd.underlying30 Y30, ⟨rfl, rfl⟩, PartV.at [] [2] base0 (H.c .nil)⟩

/-! ### impl_within: function 68 -/
def impl_within.f (a0 : Int) (a1 : Int) (a2 : Int) : Option (Bool) := if a0 ≥ a1 then (some (decide (a0 ≤ a2))) else (some false)
set_option maxRecDepth 100000 in
set_option maxHeartbeats 20000000 in
theorem impl_within.ac (a0 : Int) (a1 : Int) (a2 : Int) (r : Bool) (h : impl_within.f a0 a1 a2 = some r) :
  ACalls Tryd.prog 68 [.lit (.int .i64 a0), .lit (.int .i64 a1), .lit (.int .i64 a2)] [] (fun v H' => v = .lit (.bool r) ∧ H' = []) := by
 refine ACalls.ofP [6] Tryd.func68 rfl (by exact Nat.le_of_ble_eq_true rfl) rfl (by decide) ?_
 simp only [Tryd.ntmps68, env0, impl_within.f] at h ⊢
 pl_ h
 refine AWp.seq ?_
 refine AWp.region ?_
 refine L.Y Y.asg ?_
 refine AList.nil ?_
 refine AWp.seq ?_
 refine AWp.region ?_
 refine L.Y Y.mv ?_
 refine L.Y Y.mv ?_
 refine L.Y Y.bin ?_
 refine L.Y Y.mv ?_
 refine L.Gc (fun hb => ?_) (fun hb => ?_)
 ·
  have hb1 := hb
  sb_ hb
  rw_ hb1 hb h
  pl_ h
  refine L.Gy hb1 Y.mv ?_
  refine L.Gy hb1 Y.mv ?_
  refine L.Gy hb1 Y.bin ?_
  refine L.Y (Y.pk (c := true) hb1) ?_
  refine L.Y Y.asg ?_
  refine AList.nil ?_
  pl_ h
  obtain rfl := Option.some.inj h
  refine AWp.ret ?_
  exact ⟨.inr rfl, [(6, _)], _, ⟨rfl, rfl⟩, IsPart.at [] [] base0 .nil (E.c .nil)⟩
 ·
  have hb1 := hb
  sb_ hb
  rw_ hb1 hb h
  pl_ h
  refine L.Gn hb1 ?_
  refine L.Gn hb1 ?_
  refine L.Gn hb1 ?_
  refine L.Y (Y.pk (c := false) hb1) ?_
  refine L.Y Y.asg ?_
  refine AList.nil ?_
  pl_ h
  obtain rfl := Option.some.inj h
  refine AWp.ret ?_
  exact ⟨.inr rfl, [(6, _)], _, ⟨rfl, rfl⟩, IsPart.at [] [] base0 .nil (E.c .nil)⟩

/-! ### impl_allWithin: function 88 -/
def impl_allWithin.l0 : Nat → Int → Int → List Int → Int → Int → Option (Bool)
 | 0, _, _, _, _, _ => none
 | k + 1, x1, x2, x9, x10, x11 => if x11 < x10 then (if 0 ≤ x11 then (if x11 < (x9.length : Int) then ((impl_within.f (rd x9 x11) x1 x2).bind fun t267 => (if t267 = true then (impl_allWithin.l0 k x1 x2 x9 x10 (wrap64 (x11 + 1))) else (some false))) else (none)) else (none)) else (some true)
def impl_allWithin.f (k : Nat) (l0 : List Int) (a1 : Int) (a2 : Int) : Option (Bool) := impl_allWithin.l0 k a1 a2 l0 (l0.length : Int) 0
theorem impl_allWithin.mono_l : ∀ k, (∀ y0 y1 y2 y3 y4, LeO (impl_allWithin.l0 k y0 y1 y2 y3 y4) (impl_allWithin.l0 (k + 1) y0 y1 y2 y3 y4))
 | 0 => fun _ _ _ _ _ r h => by simp [impl_allWithin.l0] at h
 | k + 1 => by
  have ih0 := impl_allWithin.mono_l k
  ·
   intro y0 y1 y2 y3 y4
   unfold impl_allWithin.l0
   repeat' first
   | (with_reducible exact ih0 _ _ _ _ _)
   | (with_reducible exact LeO.refl _)
   | (with_reducible exact LeO.none _)
   | (with_reducible refine LeO.ite ?_ ?_)
   | (with_reducible refine LeO.bind ?_ (fun _ => ?_))
   | exact ih0 _ _ _ _ _
   | exact LeO.none _
   | refine LeO.ite ?_ ?_
   | refine LeO.bind ?_ (fun _ => ?_)
theorem impl_allWithin.mono : ∀ a0 a1 a2 k, LeO (impl_allWithin.f k a0 a1 a2) (impl_allWithin.f (k + 1) a0 a1 a2) := by
 intro a0 a1 a2 k
 have ih0 := impl_allWithin.mono_l k
 unfold impl_allWithin.f
 repeat' first
   | (with_reducible exact ih0 _ _ _ _ _)
   | (with_reducible exact LeO.refl _)
   | (with_reducible exact LeO.none _)
   | (with_reducible refine LeO.ite ?_ ?_)
   | (with_reducible refine LeO.bind ?_ (fun _ => ?_))
   | exact ih0 _ _ _ _ _
   | exact LeO.none _
   | refine LeO.ite ?_ ?_
   | refine LeO.bind ?_ (fun _ => ?_)
set_option maxRecDepth 100000 in
set_option maxHeartbeats 20000000 in
theorem impl_allWithin.ac (k : Nat) (l0 : List Int) (a1 : Int) (a2 : Int) (r : Bool) (h : impl_allWithin.f k l0 a1 a2 = some r) :
  ACalls Tryd.prog 88 [.row 1 l0.length false (ints .i64 l0), .lit (.int .i64 a1), .lit (.int .i64 a2)] [] (fun v H' => v = .lit (.bool r) ∧ H' = []) := by
 refine ACalls.ofP [6] Tryd.func88 rfl (by exact Nat.le_of_ble_eq_true rfl) rfl (by decide) ?_
 simp only [Tryd.ntmps88, env0, impl_allWithin.f] at h ⊢
 pl_ h
 refine AWp.seq ?_
 refine AWp.region ?_
 refine L.Y Y.asg ?_
 refine AList.nil ?_
 refine AWp.seq ?_
 refine AWp.seq ?_
 refine AWp.region ?_
 refine L.Y Y.mv ?_
 refine L.Y (Y.ln Tryd.underlying22) ?_
 refine L.Y Y.mv ?_
 refine AList.nil ?_
 refine AWp.block ?_
 pl_ h
 refine AWp.loopI (fun kk e H => kk ≤ k ∧ ∃ (x1 : Int) (x2 : Int) (x10 : Int) (x11 : Int), e = [(1, .lit (.int .i64 x1)), (2, .lit (.int .i64 x2)), (9, .row 1 l0.length false (ints .i64 l0)), (10, .lit (.int .i64 x10)), (11, .lit (.int .i64 x11))] ∧ H = [] ∧ impl_allWithin.l0 kk x1 x2 l0 x10 x11 = some r) (k := k)
  ⟨_, _, ⟨Nat.le_refl _, _, _, _, _, rfl, rfl, h⟩, IsPart.at [] [] base0 .nil (E.c (E.c (E.c (E.c (E.c .nil)))))⟩ ?_
 clear h
 rintro k1 e H ⟨hk2, x1, x2, x10, x11, rfl, rfl, h⟩
 cases k1 with
 | zero => exact absurd h (by simp [impl_allWithin.l0])
 | succ k1 =>
 simp only [impl_allWithin.l0] at h
 pl_ h
 refine AWp.seq ?_
 refine AWp.region ?_
 refine L.Y Y.bin ?_
 refine AList.nil ?_
 refine AWp.seq ?_
 refine W.cond (fun hb => ?_) (fun hb => ?_)
 ·
  have hb3 := hb
  sb_ hb
  rw_ hb3 hb h
  pl_ h
  refine AWp.skip ?_
  refine AWp.seq ?_
  refine AWp.block ?_
  refine AWp.seq ?_
  refine AWp.region ?_
  refine L.Y (Y.ixr Tryd.underlying22 Y3) ?_
  refine L.S (S.ld Tryd.underlying3) ?_
  refine L.Y Y.asg ?_
  refine AList.nil ?_
  refine AWp.seq ?_
  refine AWp.region ?_
  refine L.Y Y.mv ?_
  refine L.Y Y.mv ?_
  refine L.Y Y.mv ?_
  pl_ h
  obtain ⟨t267, hc4, h⟩ := Option.bind_eq_some_iff.1 h
  pl_ h
  refine L.C (C.callE (l := true) [] Tryd.func68 (impl_within.ac _ _ _ _ hc4) .nil ?_)
  refine L.Y Y.nt ?_
  refine AList.nil ?_
  refine W.cond (fun hb => ?_) (fun hb => ?_)
  ·
   have hb5 := hb
   sb_ hb
   rw_ hb5 hb h
   pl_ h
   refine AWp.seq ?_
   refine W.kp [1, 2, 8, 9, 10, 11, 12, 19] ?_
   refine AWp.region ?_
   refine L.Y Y.asg ?_
   refine AList.nil ?_
   pl_ h
   obtain rfl := Option.some.inj h
   refine AWp.ret ?_
   exact ⟨.inr rfl, [(6, _)], _, ⟨rfl, rfl⟩, IsPart.at [] [] base0 .nil (E.c .nil)⟩
  ·
   have hb5 := hb
   sb_ hb
   rw_ hb5 hb h
   pl_ h
   refine AWp.skip ?_
   refine W.kp [1, 2, 8, 9, 10, 11, 12, 19] ?_
   refine AWp.region ?_
   refine L.Y Y.bin ?_
   refine L.Y Y.mv ?_
   refine AList.nil ?_
   pl_ h
   exact ⟨k1, by omega, _, _, ⟨by omega, _, _, _, _, rfl, rfl, h⟩, IsPart.at [] [] base0 .nil (E.c (E.c (E.c (E.c (E.c .nil)))))⟩
 ·
  have hb3 := hb
  sb_ hb
  rw_ hb3 hb h
  pl_ h
  refine AWp.exit ?_
  refine AWp.seq ?_
  refine AWp.region ?_
  refine L.Y Y.asg ?_
  refine AList.nil ?_
  pl_ h
  obtain rfl := Option.some.inj h
  refine AWp.ret ?_
  exact ⟨.inr rfl, [(6, _)], _, ⟨rfl, rfl⟩, IsPart.at [] [] base0 .nil (E.c .nil)⟩

end Go.Proofs.YtpippjgphndjmaaDoor.PFnChoicesOfOrders
