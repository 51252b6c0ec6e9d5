/- Walks of functions that the law FnExactCutActs reaches, turned by this session from a print of which a part did not build; what was changed is listed in wip/patches of the proofs' repo. -/
import Derived.Test.YtgfacdhkamphiaaOFnExactCutActsx0
import Derived.Test.YtgfacdhkamphiaaOFnExactCutActsx1
import Derived.Test.YtgfacdhkamphiaaOFnExactCutActsx2
import Derived.Test.YtgfacdhkamphiaaOFnExactCutActsx3
import Derived.Test.YtgfacdhkamphiaaOFnExactCutActsx4
import Derived.Test.YtgfacdhkamphiaaOFnExactCutActsx5
import Derived.Test.YtgfacdhkamphiaaOFnExactCutActsx10
import Derived.Test.YtgfacdhkamphiaaOFnExactCutActsx18
namespace Go.Proofs.Ytgfacdhkamphiaa.PFnExactCutActs
open Go.RowKit Go.Proofs.YtgfacdhkamphiaaW.PrintWords Go.Proofs.YtgfacdhkamphiaaW.PrintLast Go.Proofs.YtgfacdhkamphiaaW.PrintMore
attribute [local go_sem] max2_int min2_int max_two min_two max_three min_three max_four min_four   -- for this text's walks alone
set_option linter.unusedVariables false
set_option linter.unusedSimpArgs false

/-! ### laws_FnExactCutActs: function 10 -/
mutual
def laws_FnExactCutActs.j0 : Nat → List (S52) → Int → List Int → Bool → List (S55) → List Int → Bool → Bool → List (S134) → List (S45) → List (S45) → List (S45) → Option (Bool)
 | 0,_,_,_,_,_,_,_,_,_,_,_,_ => none
 | k + 1,x1,x2,x3,x11,x13,x14,x16,x68,x352000,x368000,x372000,x383000 => if x68 = true then (some false) else ((laws_toDisk.f k x352000).bind fun t384 => ((laws_eqDisk.f k x372000 t384).bind fun t387 => (if t387 = true then ((laws_toActS.f k x1).bind fun t388 => ((laws_eqActS.f k x13 t388).bind fun t391 => (if t391 = true then ((laws_toIntS.f k x3).bind fun t392 => ((laws_eqIntS.f k x14 t392).bind fun t395 => (if t395 = true then ((laws_markDisk.f k x372000 1).bind fun bt396 => ((laws_markActS.f k x13 bt396.1).bind fun bt398 => ((laws_markIntS.f k x14 bt398.1).bind fun bt400 => (if bt400.1 < 0 then (laws_FnExactCutActs.j1 k x1 x2 x3 x11 true x352000 x368000 x383000) else ((laws_eqDisk.f k x383000 x368000).bind fun t402 => (if t402 = true then (laws_FnExactCutActs.j1 k x1 x2 x3 x11 (x16 != x11) x352000 x368000 x383000) else (laws_FnExactCutActs.j1 k x1 x2 x3 x11 true x352000 x368000 x383000))))))) else (some false)))) else (some false)))) else (some false))))
def laws_FnExactCutActs.j1 : Nat → List (S52) → Int → List Int → Bool → Bool → List (S134) → List (S45) → List (S45) → Option (Bool)
 | 0,_,_,_,_,_,_,_,_ => none
 | k + 1,x1,x2,x3,x11,x105,x352000,x368000,x383000 => if x105 = true then (some false) else ((laws_markDisk.f k x383000 1).bind fun bt403 => ((laws_heldDisk.f k bt403.2 1).bind fun t405 => (if t405 < 0 then (some false) else (if t405 = bt403.1 then ((laws_toDisk.f k x352000).bind fun t406 => ((laws_toActS.f k x1).bind fun t409 => ((laws_toIntS.f k x3).bind fun t412 => ((impl_CutActs.f k t406 t409 x2 t412).bind fun bt415 => ((laws_eqDisk.f k bt415.1 x368000).bind fun t420 => (if t420 = true then (laws_FnExactCutActs.j2 k bt403.1 (bt415.2 != x11) bt403.2) else (laws_FnExactCutActs.j2 k bt403.1 true bt403.2))))))) else (some false)))))
def laws_FnExactCutActs.j2 : Nat → Int → Bool → List (S45) → Option (Bool)
 | 0,_,_,_ => none
 | k + 1,x18,x136,x383000 => if x136 = true then (some false) else ((laws_heldDisk.f k x383000 1).bind fun t421 => (if t421 < 0 then (some false) else (if t421 = x18 then (some true) else (some false))))
end
def laws_FnExactCutActs.f (k : Nat) (l0_0 : List (S134)) (l1 : List (S52)) (a2 : Int) (l3 : List Int) : Option (Bool):=if (l3.length : Int) > 1048576 then (some true) else ((laws_szDisk.f k l0_0 1048576).bind fun t352 => (if t352 < 0 then (some true) else ((laws_szActS.f k l1 t352).bind fun t353 => (if t353 < 0 then (some true) else ((laws_toDisk.f k l0_0).bind fun t354 => ((laws_toActS.f k l1).bind fun t357 => ((laws_toIntS.f k l3).bind fun t360 => ((spec_CutActs.f k t354 t357 a2 t360).bind fun bt363 => ((laws_toDisk.f k l0_0).bind fun t368 => ((laws_toActS.f k l1).bind fun t372 => ((laws_toIntS.f k l3).bind fun t375 => ((impl_CutActs.f k t368 t372 a2 t375).bind fun bt378 => ((laws_eqDisk.f k bt378.1 bt363.1).bind fun t383 => (if t383 = true then (laws_FnExactCutActs.j0 k l1 a2 l3 bt363.2 t372 t375 bt378.2 (bt378.2 != bt363.2) l0_0 bt363.1 t368 bt378.1) else (laws_FnExactCutActs.j0 k l1 a2 l3 bt363.2 t372 t375 bt378.2 true l0_0 bt363.1 t368 bt378.1)))))))))))))))
theorem laws_FnExactCutActs.mono_l : ∀ k,(∀ y0 y1 y2 y3 y4 y5 y6 y7 y8 y9 y10 y11,LeO (laws_FnExactCutActs.j0 k y0 y1 y2 y3 y4 y5 y6 y7 y8 y9 y10 y11) (laws_FnExactCutActs.j0 (k + 1) y0 y1 y2 y3 y4 y5 y6 y7 y8 y9 y10 y11)) ∧ (∀ y0 y1 y2 y3 y4 y5 y6 y7,LeO (laws_FnExactCutActs.j1 k y0 y1 y2 y3 y4 y5 y6 y7) (laws_FnExactCutActs.j1 (k + 1) y0 y1 y2 y3 y4 y5 y6 y7)) ∧ (∀ y0 y1 y2,LeO (laws_FnExactCutActs.j2 k y0 y1 y2) (laws_FnExactCutActs.j2 (k + 1) y0 y1 y2))
 | 0 => ⟨fun _ _ _ _ _ _ _ _ _ _ _ _ r h => by simp [laws_FnExactCutActs.j0] at h,fun _ _ _ _ _ _ _ _ r h => by simp [laws_FnExactCutActs.j1] at h,fun _ _ _ r h => by simp [laws_FnExactCutActs.j2] at h⟩
 | k + 1 => by
  obtain ⟨ih0,ih1,ih2⟩:=laws_FnExactCutActs.mono_l k
  refine ⟨?_,?_,?_⟩
  ·intro y0 y1 y2 y3 y4 y5 y6 y7 y8 y9 y10 y11
   unfold laws_FnExactCutActs.j0
   repeat' first
   | (with_reducible exact ih0 _ _ _ _ _ _ _ _ _ _ _ _)
   | (with_reducible exact ih1 _ _ _ _ _ _ _ _)
   | (with_reducible exact ih2 _ _ _)
   | (with_reducible exact impl_CutActs.mono _ _ _ _ _)
   | (with_reducible exact laws_eqActS.mono _ _ _)
   | (with_reducible exact laws_eqDisk.mono _ _ _)
   | (with_reducible exact laws_eqIntS.mono _ _ _)
   | (with_reducible exact laws_heldDisk.mono _ _ _)
   | (with_reducible exact laws_markActS.mono _ _ _)
   | (with_reducible exact laws_markDisk.mono _ _ _)
   | (with_reducible exact laws_markIntS.mono _ _ _)
   | (with_reducible exact laws_szActS.mono _ _ _)
   | (with_reducible exact laws_szDisk.mono _ _ _)
   | (with_reducible exact laws_toActS.mono _ _)
   | (with_reducible exact laws_toDisk.mono _ _)
   | (with_reducible exact laws_toIntS.mono _ _)
   | (with_reducible exact spec_CutActs.mono _ _ _ _ _)
   | (with_reducible exact LeO.refl _)
   | (with_reducible exact LeO.none _)
   | (with_reducible refine LeO.ite ?_ ?_)
   | (with_reducible refine LeO.bind ?_ (fun _ => ?_))
   | exact ih0 _ _ _ _ _ _ _ _ _ _ _ _
   | exact ih1 _ _ _ _ _ _ _ _
   | exact ih2 _ _ _
   | exact impl_CutActs.mono _ _ _ _ _
   | exact laws_eqActS.mono _ _ _
   | exact laws_eqDisk.mono _ _ _
   | exact laws_eqIntS.mono _ _ _
   | exact laws_heldDisk.mono _ _ _
   | exact laws_markActS.mono _ _ _
   | exact laws_markDisk.mono _ _ _
   | exact laws_markIntS.mono _ _ _
   | exact laws_szActS.mono _ _ _
   | exact laws_szDisk.mono _ _ _
   | exact laws_toActS.mono _ _
   | exact laws_toDisk.mono _ _
   | exact laws_toIntS.mono _ _
   | exact spec_CutActs.mono _ _ _ _ _
   | exact LeO.none _
   | refine LeO.ite ?_ ?_
   | refine LeO.bind ?_ (fun _ => ?_)
  ·intro y0 y1 y2 y3 y4 y5 y6 y7
   unfold laws_FnExactCutActs.j1
   repeat' first
   | (with_reducible exact ih0 _ _ _ _ _ _ _ _ _ _ _ _)
   | (with_reducible exact ih1 _ _ _ _ _ _ _ _)
   | (with_reducible exact ih2 _ _ _)
   | (with_reducible exact impl_CutActs.mono _ _ _ _ _)
   | (with_reducible exact laws_eqActS.mono _ _ _)
   | (with_reducible exact laws_eqDisk.mono _ _ _)
   | (with_reducible exact laws_eqIntS.mono _ _ _)
   | (with_reducible exact laws_heldDisk.mono _ _ _)
   | (with_reducible exact laws_markActS.mono _ _ _)
   | (with_reducible exact laws_markDisk.mono _ _ _)
   | (with_reducible exact laws_markIntS.mono _ _ _)
   | (with_reducible exact laws_szActS.mono _ _ _)
   | (with_reducible exact laws_szDisk.mono _ _ _)
   | (with_reducible exact laws_toActS.mono _ _)
   | (with_reducible exact laws_toDisk.mono _ _)
   | (with_reducible exact laws_toIntS.mono _ _)
   | (with_reducible exact spec_CutActs.mono _ _ _ _ _)
   | (with_reducible exact LeO.refl _)
   | (with_reducible exact LeO.none _)
   | (with_reducible refine LeO.ite ?_ ?_)
   | (with_reducible refine LeO.bind ?_ (fun _ => ?_))
   | exact ih0 _ _ _ _ _ _ _ _ _ _ _ _
   | exact ih1 _ _ _ _ _ _ _ _
   | exact ih2 _ _ _
   | exact impl_CutActs.mono _ _ _ _ _
   | exact laws_eqActS.mono _ _ _
   | exact laws_eqDisk.mono _ _ _
   | exact laws_eqIntS.mono _ _ _
   | exact laws_heldDisk.mono _ _ _
   | exact laws_markActS.mono _ _ _
   | exact laws_markDisk.mono _ _ _
   | exact laws_markIntS.mono _ _ _
   | exact laws_szActS.mono _ _ _
   | exact laws_szDisk.mono _ _ _
   | exact laws_toActS.mono _ _
   | exact laws_toDisk.mono _ _
   | exact laws_toIntS.mono _ _
   | exact spec_CutActs.mono _ _ _ _ _
   | exact LeO.none _
   | refine LeO.ite ?_ ?_
   | refine LeO.bind ?_ (fun _ => ?_)
  ·intro y0 y1 y2
   unfold laws_FnExactCutActs.j2
   repeat' first
   | (with_reducible exact ih0 _ _ _ _ _ _ _ _ _ _ _ _)
   | (with_reducible exact ih1 _ _ _ _ _ _ _ _)
   | (with_reducible exact ih2 _ _ _)
   | (with_reducible exact impl_CutActs.mono _ _ _ _ _)
   | (with_reducible exact laws_eqActS.mono _ _ _)
   | (with_reducible exact laws_eqDisk.mono _ _ _)
   | (with_reducible exact laws_eqIntS.mono _ _ _)
   | (with_reducible exact laws_heldDisk.mono _ _ _)
   | (with_reducible exact laws_markActS.mono _ _ _)
   | (with_reducible exact laws_markDisk.mono _ _ _)
   | (with_reducible exact laws_markIntS.mono _ _ _)
   | (with_reducible exact laws_szActS.mono _ _ _)
   | (with_reducible exact laws_szDisk.mono _ _ _)
   | (with_reducible exact laws_toActS.mono _ _)
   | (with_reducible exact laws_toDisk.mono _ _)
   | (with_reducible exact laws_toIntS.mono _ _)
   | (with_reducible exact spec_CutActs.mono _ _ _ _ _)
   | (with_reducible exact LeO.refl _)
   | (with_reducible exact LeO.none _)
   | (with_reducible refine LeO.ite ?_ ?_)
   | (with_reducible refine LeO.bind ?_ (fun _ => ?_))
   | exact ih0 _ _ _ _ _ _ _ _ _ _ _ _
   | exact ih1 _ _ _ _ _ _ _ _
   | exact ih2 _ _ _
   | exact impl_CutActs.mono _ _ _ _ _
   | exact laws_eqActS.mono _ _ _
   | exact laws_eqDisk.mono _ _ _
   | exact laws_eqIntS.mono _ _ _
   | exact laws_heldDisk.mono _ _ _
   | exact laws_markActS.mono _ _ _
   | exact laws_markDisk.mono _ _ _
   | exact laws_markIntS.mono _ _ _
   | exact laws_szActS.mono _ _ _
   | exact laws_szDisk.mono _ _ _
   | exact laws_toActS.mono _ _
   | exact laws_toDisk.mono _ _
   | exact laws_toIntS.mono _ _
   | exact spec_CutActs.mono _ _ _ _ _
   | exact LeO.none _
   | refine LeO.ite ?_ ?_
   | refine LeO.bind ?_ (fun _ => ?_)
theorem laws_FnExactCutActs.mono : ∀ a0 a1 a2 a3 k,LeO (laws_FnExactCutActs.f k a0 a1 a2 a3) (laws_FnExactCutActs.f (k + 1) a0 a1 a2 a3):=by
 intro a0 a1 a2 a3 k
 obtain ⟨ih0,ih1,ih2⟩:=laws_FnExactCutActs.mono_l k
 unfold laws_FnExactCutActs.f
 repeat' first
   | (with_reducible exact ih0 _ _ _ _ _ _ _ _ _ _ _ _)
   | (with_reducible exact ih1 _ _ _ _ _ _ _ _)
   | (with_reducible exact ih2 _ _ _)
   | (with_reducible exact impl_CutActs.mono _ _ _ _ _)
   | (with_reducible exact laws_eqActS.mono _ _ _)
   | (with_reducible exact laws_eqDisk.mono _ _ _)
   | (with_reducible exact laws_eqIntS.mono _ _ _)
   | (with_reducible exact laws_heldDisk.mono _ _ _)
   | (with_reducible exact laws_markActS.mono _ _ _)
   | (with_reducible exact laws_markDisk.mono _ _ _)
   | (with_reducible exact laws_markIntS.mono _ _ _)
   | (with_reducible exact laws_szActS.mono _ _ _)
   | (with_reducible exact laws_szDisk.mono _ _ _)
   | (with_reducible exact laws_toActS.mono _ _)
   | (with_reducible exact laws_toDisk.mono _ _)
   | (with_reducible exact laws_toIntS.mono _ _)
   | (with_reducible exact spec_CutActs.mono _ _ _ _ _)
   | (with_reducible exact LeO.refl _)
   | (with_reducible exact LeO.none _)
   | (with_reducible refine LeO.ite ?_ ?_)
   | (with_reducible refine LeO.bind ?_ (fun _ => ?_))
   | exact ih0 _ _ _ _ _ _ _ _ _ _ _ _
   | exact ih1 _ _ _ _ _ _ _ _
   | exact ih2 _ _ _
   | exact impl_CutActs.mono _ _ _ _ _
   | exact laws_eqActS.mono _ _ _
   | exact laws_eqDisk.mono _ _ _
   | exact laws_eqIntS.mono _ _ _
   | exact laws_heldDisk.mono _ _ _
   | exact laws_markActS.mono _ _ _
   | exact laws_markDisk.mono _ _ _
   | exact laws_markIntS.mono _ _ _
   | exact laws_szActS.mono _ _ _
   | exact laws_szDisk.mono _ _ _
   | exact laws_toActS.mono _ _
   | exact laws_toDisk.mono _ _
   | exact laws_toIntS.mono _ _
   | exact spec_CutActs.mono _ _ _ _ _
   | exact LeO.none _
   | refine LeO.ite ?_ ?_
   | refine LeO.bind ?_ (fun _ => ?_)
set_option maxHeartbeats 8000000 in
set_option maxRecDepth 100000 in
theorem laws_FnExactCutActs.calls (k : Nat) (A0_0 : Option Addr) (c0_0 : Nat) (l0_0 : List (S134)) (A1 : Option Addr) (c1 : Nat) (l1 : List (S52)) (a2 : Int) (A3 : Option Addr) (c3 : Nat) (l3 : List Int) (r : Bool) (w : World) (hr0_0 : Kd.C k134 w A0_0 l0_0.length l0_0) (hc0_0 : l0_0.length ≤ c0_0) (hr1 : Kd.C k52 w A1 l1.length l1) (hc1 : l1.length ≤ c1) (hr3 : Kd.C (Kd.int .i64) w A3 l3.length l3) (hc3 : l3.length ≤ c3) (h : laws_FnExactCutActs.f k l0_0 l1 a2 l3 = some r) (hrt : r = true) :
  Calls Try.prog 10 #[.agg #[.slice A0_0 l0_0.length c0_0],.slice A1 l1.length c1,.int .i64 a2,.slice A3 l3.length c3] w fun e w' => e = .returned (.bool r) ∧ Below w.heap.size w w':=by
 have hu24:=Try.underlying24
 have hu30:=Try.underlying30
 have HR0_0:=Aside0.mk hr0_0
 have HC0_0:=Aside0.mk hc0_0
 clear hr0_0 hc0_0
 have HR1:=Aside0.mk hr1
 have HC1:=Aside0.mk hc1
 clear hr1 hc1
 have HR3:=Aside0.mk hr3
 have HC3:=Aside0.mk hc3
 clear hr3 hc3
 have HB:=Aside0.mk (Below.refl w.heap.size w)
 have H : (if (l3.length : Int) > 1048576 then (some true) else ((laws_szDisk.f k l0_0 1048576).bind fun t352 => (if t352 < 0 then (some true) else ((laws_szActS.f k l1 t352).bind fun t353 => (if t353 < 0 then (some true) else ((laws_toDisk.f k l0_0).bind fun t354 => ((laws_toActS.f k l1).bind fun t357 => ((laws_toIntS.f k l3).bind fun t360 => ((spec_CutActs.f k t354 t357 a2 t360).bind fun bt363 => ((laws_toDisk.f k l0_0).bind fun t368 => ((laws_toActS.f k l1).bind fun t372 => ((laws_toIntS.f k l3).bind fun t375 => ((impl_CutActs.f k t368 t372 a2 t375).bind fun bt378 => ((laws_eqDisk.f k bt378.1 bt363.1).bind fun t383 => (if t383 = true then (laws_FnExactCutActs.j0 k l1 a2 l3 bt363.2 t372 t375 bt378.2 (bt378.2 != bt363.2) l0_0 bt363.1 t368 bt378.1) else (laws_FnExactCutActs.j0 k l1 a2 l3 bt363.2 t372 t375 bt378.2 true l0_0 bt363.1 t368 bt378.1)))))))))))))))) = some r:=h
 clear h
 by_cases c5 : (l3.length : Int) > 1048576
 ·rw [if_pos c5] at H
  have c5b0 : decide (1048576 < (l3.length : Int)) = true:=decide_eq_true c5
  have c5b1 : decide (1048576 < l3.length) = true:=decide_eq_true (by omega)
  clear c5
  obtain rfl:=Option.some.inj H
  go_enter Try.func10,Try.ntmps10
  go_wp2_with (first | ((with_reducible refine gate_dst (N:=4) rfl ?_);refine box_event ?hg (N:=4) ?hd (cs:=#[.slice A0_0 l0_0.length c0_0]) (t:=24) ?hr ?_;(case hd => rfl);(case hg => rfl);(case hr => first | (go_simp;done) | (go_simp;rfl));intro gb351 hg w6 hbox hb;have BK351:=Aside0.mk hbox;have GW351:=zz0 hg HB;have GE351:=zz0 hg HB;replace HB:=zs0 HB hb;clear hb hbox hg))
  go_ret
  exact ⟨zW0,(zY0 HB.out)⟩
 ·rw [if_neg c5] at H
  have c5b0 : decide (1048576 < (l3.length : Int)) = false:=decide_eq_false c5
  have c5b1 : decide (1048576 < l3.length) = false:=decide_eq_false (by omega)
  clear c5
  replace H:=Option.bind_eq_some_iff.mp H
  obtain ⟨t352,A70,H⟩:=H
  replace H : (if t352 < 0 then (some true) else ((laws_szActS.f k l1 t352).bind fun t353 => (if t353 < 0 then (some true) else ((laws_toDisk.f k l0_0).bind fun t354 => ((laws_toActS.f k l1).bind fun t357 => ((laws_toIntS.f k l3).bind fun t360 => ((spec_CutActs.f k t354 t357 a2 t360).bind fun bt363 => ((laws_toDisk.f k l0_0).bind fun t368 => ((laws_toActS.f k l1).bind fun t372 => ((laws_toIntS.f k l3).bind fun t375 => ((impl_CutActs.f k t368 t372 a2 t375).bind fun bt378 => ((laws_eqDisk.f k bt378.1 bt363.1).bind fun t383 => (if t383 = true then (laws_FnExactCutActs.j0 k l1 a2 l3 bt363.2 t372 t375 bt378.2 (bt378.2 != bt363.2) l0_0 bt363.1 t368 bt378.1) else (laws_FnExactCutActs.j0 k l1 a2 l3 bt363.2 t372 t375 bt378.2 true l0_0 bt363.1 t368 bt378.1)))))))))))))) = some r:=H
  have A7:=Aside0.mk A70
  clear A70
  by_cases c8 : t352 < 0
  ·rw [if_pos c8] at H
   have c8b0 : decide (t352 < 0) = true:=decide_eq_true c8
   clear c8
   obtain rfl:=Option.some.inj H
   go_enter Try.func10,Try.ntmps10
   go_wp2_with (first | ((with_reducible refine gate_dst (N:=4) rfl ?_);refine box_event ?hg (N:=4) ?hd (cs:=#[.slice A0_0 l0_0.length c0_0]) (t:=24) ?hr ?_;(case hd => rfl);(case hg => rfl);(case hr => first | (go_simp;done) | (go_simp;rfl));intro gb351 hg w9 hbox hb;have BK351:=Aside0.mk hbox;have GW351:=zz0 hg HB;have GE351:=zz0 hg HB;replace HB:=zs0 HB hb;clear hb hbox hg;have hcz10_0:=zc00 BK351;have hfz10_0:=blk_frozen BK351.out 0) | ((with_reducible refine gate_callee (f:=14) rfl ?_);refine goesL_ (some 27) rfl rfl Try.func14 (by kernel_rfl) rfl #[.agg #[.slice A0_0 l0_0.length c0_0],.int .i64 1048576] rfl zM0 ?_;(with_reducible refine (laws_szDisk.calls k _ _ l0_0 1048576 t352 _ ?side1 ?side2 A7.out).mono ?_);(case side1 => exact zA0 ((Kd.C_below HR0_0.out HB.out)));(case side2 => exact HC0_0.out);rintro e w11 ⟨rfl,hb⟩;refine ⟨_,rfl,?_⟩;replace BK351:=zb0 BK351 hb;replace HB:=zs0 HB hb;(try clear hb)))
   go_ret
   exact ⟨zW0,(zY0 HB.out)⟩
  ·rw [if_neg c8] at H
   have c8b0 : decide (t352 < 0) = false:=decide_eq_false c8
   clear c8
   replace H:=Option.bind_eq_some_iff.mp H
   obtain ⟨t353,A120,H⟩:=H
   replace H : (if t353 < 0 then (some true) else ((laws_toDisk.f k l0_0).bind fun t354 => ((laws_toActS.f k l1).bind fun t357 => ((laws_toIntS.f k l3).bind fun t360 => ((spec_CutActs.f k t354 t357 a2 t360).bind fun bt363 => ((laws_toDisk.f k l0_0).bind fun t368 => ((laws_toActS.f k l1).bind fun t372 => ((laws_toIntS.f k l3).bind fun t375 => ((impl_CutActs.f k t368 t372 a2 t375).bind fun bt378 => ((laws_eqDisk.f k bt378.1 bt363.1).bind fun t383 => (if t383 = true then (laws_FnExactCutActs.j0 k l1 a2 l3 bt363.2 t372 t375 bt378.2 (bt378.2 != bt363.2) l0_0 bt363.1 t368 bt378.1) else (laws_FnExactCutActs.j0 k l1 a2 l3 bt363.2 t372 t375 bt378.2 true l0_0 bt363.1 t368 bt378.1)))))))))))) = some r:=H
   have A12:=Aside0.mk A120
   clear A120
   by_cases c13 : t353 < 0
   ·rw [if_pos c13] at H
    have c13b0 : decide (t353 < 0) = true:=decide_eq_true c13
    clear c13
    obtain rfl:=Option.some.inj H
    go_enter Try.func10,Try.ntmps10
    go_wp2_with (first | ((with_reducible refine gate_dst (N:=4) rfl ?_);refine box_event ?hg (N:=4) ?hd (cs:=#[.slice A0_0 l0_0.length c0_0]) (t:=24) ?hr ?_;(case hd => rfl);(case hg => rfl);(case hr => first | (go_simp;done) | (go_simp;rfl));intro gb351 hg w14 hbox hb;have BK351:=Aside0.mk hbox;have GW351:=zz0 hg HB;have GE351:=zz0 hg HB;replace HB:=zs0 HB hb;clear hb hbox hg;have hcz15_0:=zc00 BK351;have hfz15_0:=blk_frozen BK351.out 0) | ((with_reducible refine gate_callee (f:=14) rfl ?_);refine goesL_ (some 27) rfl rfl Try.func14 (by kernel_rfl) rfl #[.agg #[.slice A0_0 l0_0.length c0_0],.int .i64 1048576] rfl zM0 ?_;(with_reducible refine (laws_szDisk.calls k _ _ l0_0 1048576 t352 _ ?side1 ?side2 A7.out).mono ?_);(case side1 => exact zA0 ((Kd.C_below HR0_0.out HB.out)));(case side2 => exact HC0_0.out);rintro e w16 ⟨rfl,hb⟩;refine ⟨_,rfl,?_⟩;replace BK351:=zb0 BK351 hb;replace HB:=zs0 HB hb;(try clear hb)) | ((with_reducible refine gate_callee (f:=39) rfl ?_);refine goesL_ (some 32) rfl rfl Try.func39 (by kernel_rfl) rfl #[.slice A1 l1.length c1,.int .i64 t352] rfl zM0 ?_;(with_reducible refine (laws_szActS.calls k _ _ l1 t352 t353 _ ?side1 ?side2 A12.out).mono ?_);(case side1 => exact zA0 ((Kd.C_below HR1.out HB.out)));(case side2 => exact HC1.out);rintro e w17 ⟨rfl,hb⟩;refine ⟨_,rfl,?_⟩;replace BK351:=zb0 BK351 hb;replace HB:=zs0 HB hb;(try clear hb)))
    go_ret
    exact ⟨zW0,(zY0 HB.out)⟩
   ·rw [if_neg c13] at H
    have c13b0 : decide (t353 < 0) = false:=decide_eq_false c13
    clear c13
    replace H:=Option.bind_eq_some_iff.mp H
    obtain ⟨t354,A180,H⟩:=H
    replace H : ((laws_toActS.f k l1).bind fun t357 => ((laws_toIntS.f k l3).bind fun t360 => ((spec_CutActs.f k t354 t357 a2 t360).bind fun bt363 => ((laws_toDisk.f k l0_0).bind fun t368 => ((laws_toActS.f k l1).bind fun t372 => ((laws_toIntS.f k l3).bind fun t375 => ((impl_CutActs.f k t368 t372 a2 t375).bind fun bt378 => ((laws_eqDisk.f k bt378.1 bt363.1).bind fun t383 => (if t383 = true then (laws_FnExactCutActs.j0 k l1 a2 l3 bt363.2 t372 t375 bt378.2 (bt378.2 != bt363.2) l0_0 bt363.1 t368 bt378.1) else (laws_FnExactCutActs.j0 k l1 a2 l3 bt363.2 t372 t375 bt378.2 true l0_0 bt363.1 t368 bt378.1)))))))))) = some r:=H
    have A18:=Aside0.mk A180
    clear A180
    replace H:=Option.bind_eq_some_iff.mp H
    obtain ⟨t357,A190,H⟩:=H
    replace H : ((laws_toIntS.f k l3).bind fun t360 => ((spec_CutActs.f k t354 t357 a2 t360).bind fun bt363 => ((laws_toDisk.f k l0_0).bind fun t368 => ((laws_toActS.f k l1).bind fun t372 => ((laws_toIntS.f k l3).bind fun t375 => ((impl_CutActs.f k t368 t372 a2 t375).bind fun bt378 => ((laws_eqDisk.f k bt378.1 bt363.1).bind fun t383 => (if t383 = true then (laws_FnExactCutActs.j0 k l1 a2 l3 bt363.2 t372 t375 bt378.2 (bt378.2 != bt363.2) l0_0 bt363.1 t368 bt378.1) else (laws_FnExactCutActs.j0 k l1 a2 l3 bt363.2 t372 t375 bt378.2 true l0_0 bt363.1 t368 bt378.1))))))))) = some r:=H
    have A19:=Aside0.mk A190
    clear A190
    replace H:=Option.bind_eq_some_iff.mp H
    obtain ⟨t360,A200,H⟩:=H
    replace H : ((spec_CutActs.f k t354 t357 a2 t360).bind fun bt363 => ((laws_toDisk.f k l0_0).bind fun t368 => ((laws_toActS.f k l1).bind fun t372 => ((laws_toIntS.f k l3).bind fun t375 => ((impl_CutActs.f k t368 t372 a2 t375).bind fun bt378 => ((laws_eqDisk.f k bt378.1 bt363.1).bind fun t383 => (if t383 = true then (laws_FnExactCutActs.j0 k l1 a2 l3 bt363.2 t372 t375 bt378.2 (bt378.2 != bt363.2) l0_0 bt363.1 t368 bt378.1) else (laws_FnExactCutActs.j0 k l1 a2 l3 bt363.2 t372 t375 bt378.2 true l0_0 bt363.1 t368 bt378.1)))))))) = some r:=H
    have A20:=Aside0.mk A200
    clear A200
    replace H:=Option.bind_eq_some_iff.mp H
    obtain ⟨⟨t363,t366⟩,A210,H⟩:=H
    replace H : ((laws_toDisk.f k l0_0).bind fun t368 => ((laws_toActS.f k l1).bind fun t372 => ((laws_toIntS.f k l3).bind fun t375 => ((impl_CutActs.f k t368 t372 a2 t375).bind fun bt378 => ((laws_eqDisk.f k bt378.1 t363).bind fun t383 => (if t383 = true then (laws_FnExactCutActs.j0 k l1 a2 l3 t366 t372 t375 bt378.2 (bt378.2 != t366) l0_0 t363 t368 bt378.1) else (laws_FnExactCutActs.j0 k l1 a2 l3 t366 t372 t375 bt378.2 true l0_0 t363 t368 bt378.1))))))) = some r:=H
    have A21:=Aside0.mk A210
    clear A210
    replace H:=Option.bind_eq_some_iff.mp H
    obtain ⟨t368,A220,H⟩:=H
    replace H : ((laws_toActS.f k l1).bind fun t372 => ((laws_toIntS.f k l3).bind fun t375 => ((impl_CutActs.f k t368 t372 a2 t375).bind fun bt378 => ((laws_eqDisk.f k bt378.1 t363).bind fun t383 => (if t383 = true then (laws_FnExactCutActs.j0 k l1 a2 l3 t366 t372 t375 bt378.2 (bt378.2 != t366) l0_0 t363 t368 bt378.1) else (laws_FnExactCutActs.j0 k l1 a2 l3 t366 t372 t375 bt378.2 true l0_0 t363 t368 bt378.1)))))) = some r:=H
    have A22:=Aside0.mk A220
    clear A220
    replace H:=Option.bind_eq_some_iff.mp H
    obtain ⟨t372,A230,H⟩:=H
    replace H : ((laws_toIntS.f k l3).bind fun t375 => ((impl_CutActs.f k t368 t372 a2 t375).bind fun bt378 => ((laws_eqDisk.f k bt378.1 t363).bind fun t383 => (if t383 = true then (laws_FnExactCutActs.j0 k l1 a2 l3 t366 t372 t375 bt378.2 (bt378.2 != t366) l0_0 t363 t368 bt378.1) else (laws_FnExactCutActs.j0 k l1 a2 l3 t366 t372 t375 bt378.2 true l0_0 t363 t368 bt378.1))))) = some r:=H
    have A23:=Aside0.mk A230
    clear A230
    replace H:=Option.bind_eq_some_iff.mp H
    obtain ⟨t375,A240,H⟩:=H
    replace H : ((impl_CutActs.f k t368 t372 a2 t375).bind fun bt378 => ((laws_eqDisk.f k bt378.1 t363).bind fun t383 => (if t383 = true then (laws_FnExactCutActs.j0 k l1 a2 l3 t366 t372 t375 bt378.2 (bt378.2 != t366) l0_0 t363 t368 bt378.1) else (laws_FnExactCutActs.j0 k l1 a2 l3 t366 t372 t375 bt378.2 true l0_0 t363 t368 bt378.1)))) = some r:=H
    have A24:=Aside0.mk A240
    clear A240
    replace H:=Option.bind_eq_some_iff.mp H
    obtain ⟨⟨t378,t381⟩,A250,H⟩:=H
    replace H : ((laws_eqDisk.f k t378 t363).bind fun t383 => (if t383 = true then (laws_FnExactCutActs.j0 k l1 a2 l3 t366 t372 t375 t381 (t381 != t366) l0_0 t363 t368 t378) else (laws_FnExactCutActs.j0 k l1 a2 l3 t366 t372 t375 t381 true l0_0 t363 t368 t378))) = some r:=H
    have A25:=Aside0.mk A250
    clear A250
    have HC26:=Aside0.mk H
    clear H
    go_enter Try.func10,Try.ntmps10
    go_upto_region 15 with (first | ((with_reducible refine gate_dst (N:=4) rfl ?_);refine box_event ?hg (N:=4) ?hd (cs:=#[.slice A0_0 l0_0.length c0_0]) (t:=24) ?hr ?_;(case hd => rfl);(case hg => rfl);(case hr => first | (go_simp;done) | (go_simp;rfl));intro gb351 hg w27 hbox hb;have BK351:=Aside0.mk hbox;have GW351:=zz0 hg HB;have GE351:=zz0 hg HB;replace HB:=zs0 HB hb;clear hb hbox hg;have hcz28_0:=zc00 BK351;have hfz28_0:=blk_frozen BK351.out 0) | ((with_reducible refine gate_callee (f:=14) rfl ?_);refine goesL_ (some 27) rfl rfl Try.func14 (by kernel_rfl) rfl #[.agg #[.slice A0_0 l0_0.length c0_0],.int .i64 1048576] rfl zM0 ?_;(with_reducible refine (laws_szDisk.calls k _ _ l0_0 1048576 t352 _ ?side1 ?side2 A7.out).mono ?_);(case side1 => exact zA0 ((Kd.C_below HR0_0.out HB.out)));(case side2 => exact HC0_0.out);rintro e w29 ⟨rfl,hb⟩;refine ⟨_,rfl,?_⟩;replace BK351:=zb0 BK351 hb;replace HB:=zs0 HB hb;(try clear hb)) | ((with_reducible refine gate_callee (f:=39) rfl ?_);refine goesL_ (some 32) rfl rfl Try.func39 (by kernel_rfl) rfl #[.slice A1 l1.length c1,.int .i64 t352] rfl zM0 ?_;(with_reducible refine (laws_szActS.calls k _ _ l1 t352 t353 _ ?side1 ?side2 A12.out).mono ?_);(case side1 => exact zA0 ((Kd.C_below HR1.out HB.out)));(case side2 => exact HC1.out);rintro e w30 ⟨rfl,hb⟩;refine ⟨_,rfl,?_⟩;replace BK351:=zb0 BK351 hb;replace HB:=zs0 HB hb;(try clear hb);have hcz31_0:=zc00 BK351;have hfz31_0:=blk_frozen BK351.out 0) | ((with_reducible refine gate_callee (f:=16) rfl ?_);refine goesL_ (some 37) rfl rfl Try.func16 (by kernel_rfl) rfl #[.agg #[.slice A0_0 l0_0.length c0_0]] rfl zM0 ?_;(with_reducible refine (laws_toDisk.calls k _ _ l0_0 t354 _ ?side1 ?side2 A18.out).mono ?_);(case side1 => exact zA0 ((Kd.C_below HR0_0.out HB.out)));(case side2 => exact HC0_0.out);rintro e w32 ⟨v355,rfl,ho0,hb⟩;refine ⟨_,rfl,?_⟩;have HO356:=Aside0.mk (Kd.R_lower ho0 (zZ0 HB.out));replace BK351:=zb0 BK351 hb;replace HB:=zs0 HB hb;(try clear hb);(try clear ho0)) | ((with_reducible refine gate_callee (f:=41) rfl ?_);refine goesL_ (some 39) rfl rfl Try.func41 (by kernel_rfl) rfl #[.slice A1 l1.length c1] rfl zM0 ?_;(with_reducible refine (laws_toActS.calls k _ _ l1 t357 _ ?side1 ?side2 A19.out).mono ?_);(case side1 => exact zA0 ((Kd.C_below HR1.out HB.out)));(case side2 => exact HC1.out);rintro e w33 ⟨v358,rfl,ho0,hb⟩;refine ⟨_,rfl,?_⟩;replace HO356:=Aside0.mk (Kd.R_below (zR0 HO356.out) hb);have HO359:=Aside0.mk (Kd.R_lower ho0 (zZ0 HB.out));replace BK351:=zb0 BK351 hb;replace HB:=zs0 HB hb;(try clear hb);(try clear ho0)) | ((with_reducible refine gate_callee (f:=30) rfl ?_);refine goesL_ (some 42) rfl rfl Try.func30 (by kernel_rfl) rfl #[.slice A3 l3.length c3] rfl zM0 ?_;(with_reducible refine (laws_toIntS.calls k _ _ l3 t360 _ ?side1 ?side2 A20.out).mono ?_);(case side1 => exact zA0 ((Kd.C_below HR3.out HB.out)));(case side2 => exact HC3.out);rintro e w34 ⟨v361,rfl,ho0,hb⟩;refine ⟨_,rfl,?_⟩;replace HO356:=Aside0.mk (Kd.R_below (zR0 HO356.out) hb);replace HO359:=Aside0.mk (Kd.R_below (zR0 HO359.out) hb);have HO362:=Aside0.mk (Kd.R_lower ho0 (zZ0 HB.out));replace BK351:=zb0 BK351 hb;replace HB:=zs0 HB hb;(try clear hb);(try clear ho0);obtain ⟨Ao35,co35,eo35⟩:=Kd.R_slice HO356.out;subst eo35;obtain ⟨Ao36,co36,eo36⟩:=Kd.R_slice HO359.out;subst eo36;obtain ⟨Ao37,co37,eo37⟩:=Kd.R_slice HO362.out;subst eo37) | ((with_reducible refine gate_callee (f:=47) rfl ?_);refine goesL_ (some 43) rfl rfl Try.func47 (by kernel_rfl) rfl #[.agg #[.slice Ao35 t354.length co35],.slice Ao36 t357.length co36,.int .i64 a2,.slice Ao37 t360.length co37] rfl zM0 ?_;(with_reducible refine (spec_CutActs.calls k _ _ t354 _ _ t357 a2 _ _ t360 t363 t366 _ ?side1 ?side2 ?side3 ?side4 ?side5 ?side6 A21.out).mono ?_);(case side1 => exact zA0 ((Kd.R_reads' HO356.out).2.2));(case side2 => exact (Kd.R_reads' HO356.out).2.1);(case side3 => exact zA0 ((Kd.R_reads' HO359.out).2.2));(case side4 => exact (Kd.R_reads' HO359.out).2.1);(case side5 => exact zA0 ((Kd.R_reads' HO362.out).2.2));(case side6 => exact (Kd.R_reads' HO362.out).2.1);rintro e w38 ⟨v364,rfl,ho0,hb⟩;refine ⟨_,rfl,?_⟩;replace HO359:=Aside0.mk (Kd.R_below (zR0 HO359.out) hb);replace HO362:=Aside0.mk (Kd.R_below (zR0 HO362.out) hb);have HO365:=Aside0.mk (Kd.R_lower (Kd.R_new' ho0 (Kd.R_lt (zR0 HO356.out))) (zZ0 HB.out));replace HO356:=Aside0.mk (Kd.R_elder' (zR0 HO356.out) (Kd.R_base ho0) hb);replace BK351:=zb0 BK351 hb;replace HB:=zs0 HB hb;(try clear hb);(try clear ho0)) | ((with_reducible refine gate_dst (N:=10) rfl ?_);refine box_event ?hg (N:=10) ?hd (cs:=#[.slice none 0 0]) (t:=30) ?hr ?_;(case hd => rfl);(case hg => rfl);(case hr => first | (go_simp;done) | (go_simp;rfl));intro gb367 hg w39 hbox hb;replace HO356:=Aside0.mk (Kd.R_below (zR0 HO356.out) hb);replace HO359:=Aside0.mk (Kd.R_below (zR0 HO359.out) hb);replace HO362:=Aside0.mk (Kd.R_below (zR0 HO362.out) hb);replace HO365:=Aside0.mk (Kd.R_below (zR0 HO365.out) hb);have BK367:=Aside0.mk hbox;have GW367:=zz0 hg HB;have GE367:=zz0 hg HB;replace HB:=zs0 HB hb;have NB351_367:=zl0 hg BK351;have NB367_351:=zg0 hg BK351;replace BK351:=zb0 BK351 hb;clear hb hbox hg;obtain ⟨Ao40,co40,eo40⟩:=Kd.R_slice HO365.out;subst eo40;obtain ⟨_,_⟩:=zn0 NB367_351;have hcz42_0:=zc00 BK367;have hfz42_0:=blk_frozen BK367.out 0;have hcz43_0:=zc00 BK351;have hfz43_0:=blk_frozen BK351.out 0) | ((with_reducible refine gate_callee (f:=16) rfl ?_);refine goesL_ (some 47) rfl rfl Try.func16 (by kernel_rfl) rfl #[.agg #[.slice A0_0 l0_0.length c0_0]] rfl zM0 ?_;(with_reducible refine (laws_toDisk.calls k _ _ l0_0 t368 _ ?side1 ?side2 A22.out).mono ?_);(case side1 => exact Kd.C_below HR0_0.out (zY0 HB.out));(case side2 => exact HC0_0.out);rintro e w44 ⟨v369,rfl,ho0,hb⟩;refine ⟨_,rfl,?_⟩;replace HO359:=Aside0.mk (Kd.R_below (by refine zV0 ?_;exact (Kd.R_mono (Kd.R_far (p:=⟨gb367,0,none⟩) (Kd.R_types HO359.out BK367.out (by decide)) (fun _ hk => hk.2) (.slice Ao40 t363.length co40)) (fun _ h_ => h_.1))) hb);replace HO362:=Aside0.mk (Kd.R_below (by refine zV0 ?_;exact (Kd.R_mono (Kd.R_far (p:=⟨gb367,0,none⟩) (Kd.R_types HO362.out BK367.out (by decide)) (fun _ hk => hk.2) (.slice Ao40 t363.length co40)) (fun _ h_ => h_.1))) hb);have HO370:=Aside0.mk (Kd.R_lower (Kd.R_new' (Kd.R_new' ho0 (Kd.R_lt (by refine zV0 ?_;exact (Kd.R_mono (Kd.R_far (p:=⟨gb367,0,none⟩) (Kd.R_types HO356.out BK367.out (by decide)) (fun _ hk => hk.2) (.slice Ao40 t363.length co40)) (fun _ h_ => h_.1))))) (Kd.R_lt (by refine zV0 ?_;exact (Kd.R_mono (Kd.R_far (p:=⟨gb367,0,none⟩) (Kd.R_types HO365.out BK367.out (by decide)) (fun _ hk => hk.2) (.slice Ao40 t363.length co40)) (fun _ h_ => h_.1))))) (zZ0 HB.out));replace HO356:=Aside0.mk (Kd.R_elder' (by refine zV0 ?_;exact (Kd.R_mono (Kd.R_far (p:=⟨gb367,0,none⟩) (Kd.R_types HO356.out BK367.out (by decide)) (fun _ hk => hk.2) (.slice Ao40 t363.length co40)) (fun _ h_ => h_.1))) (Kd.R_base ho0) hb);replace HO365:=Aside0.mk (Kd.R_elder' (by refine zV0 ?_;exact (Kd.R_mono (Kd.R_far (p:=⟨gb367,0,none⟩) (Kd.R_types HO365.out BK367.out (by decide)) (fun _ hk => hk.2) (.slice Ao40 t363.length co40)) (fun _ h_ => h_.1))) (Kd.R_base ho0) hb);replace BK351:=zb0 BK351 hb;replace BK367:=Aside0.mk (blk_below (g:=gb367) (o:=.cells #[.slice Ao40 t363.length co40] 30 (0,0)) (by refine zT0 ?_;refine blk_put (cs:=#[.slice none 0 0]) ?_ 0 _ rfl;exact zK0 BK367.out) hb);replace HB:=zs0 HB hb;(try clear hb);(try clear hk);(try clear ho0)) | ((with_reducible refine gate_dst (N:=12) rfl ?_);refine box_event ?hg (N:=12) ?hd (cs:=#[.slice none 0 0]) (t:=30) ?hr ?_;(case hd => rfl);(case hg => rfl);(case hr => first | (go_simp;done) | (go_simp;rfl));intro gb371 hg w45 hbox hb;replace HO356:=Aside0.mk (Kd.R_below (zR0 HO356.out) hb);replace HO359:=Aside0.mk (Kd.R_below (zR0 HO359.out) hb);replace HO362:=Aside0.mk (Kd.R_below (zR0 HO362.out) hb);replace HO365:=Aside0.mk (Kd.R_below (zR0 HO365.out) hb);replace HO370:=Aside0.mk (Kd.R_below (zR0 HO370.out) hb);have BK371:=Aside0.mk hbox;have GW371:=zz0 hg HB;have GE371:=zz0 hg HB;replace HB:=zs0 HB hb;have NB351_371:=zl0 hg BK351;have NB371_351:=zg0 hg BK351;replace BK351:=zb0 BK351 hb;have NB367_371:=zl0 hg BK367;have NB371_367:=zg0 hg BK367;replace BK367:=zb0 BK367 hb;clear hb hbox hg;obtain ⟨Ao46,co46,eo46⟩:=Kd.R_slice HO370.out;subst eo46;obtain ⟨_,_⟩:=zn0 NB371_351;obtain ⟨_,_⟩:=zn0 NB371_367;have hcz49_0:=zc00 BK371;have hfz49_0:=blk_frozen BK371.out 0) | ((with_reducible refine gate_callee (f:=41) rfl ?_);refine goesL_ (some 49) rfl rfl Try.func41 (by kernel_rfl) rfl #[.slice A1 l1.length c1] rfl zM0 ?_;(with_reducible refine (laws_toActS.calls k _ _ l1 t372 _ ?side1 ?side2 A23.out).mono ?_);(case side1 => exact Kd.C_below HR1.out (zY0 HB.out));(case side2 => exact HC1.out);rintro e w50 ⟨v373,rfl,ho0,hb⟩;refine ⟨_,rfl,?_⟩;replace HO356:=Aside0.mk (Kd.R_below (by refine zV0 ?_;exact (Kd.R_mono (Kd.R_far (p:=⟨gb371,0,none⟩) (Kd.R_types HO356.out BK371.out (by decide)) (fun _ hk => hk.2) (.slice Ao46 t368.length co46)) (fun _ h_ => h_.1))) hb);replace HO362:=Aside0.mk (Kd.R_below (by refine zV0 ?_;exact (Kd.R_mono (Kd.R_far (p:=⟨gb371,0,none⟩) (Kd.R_types HO362.out BK371.out (by decide)) (fun _ hk => hk.2) (.slice Ao46 t368.length co46)) (fun _ h_ => h_.1))) hb);replace HO365:=Aside0.mk (Kd.R_below (by refine zV0 ?_;exact (Kd.R_mono (Kd.R_far (p:=⟨gb371,0,none⟩) (Kd.R_types HO365.out BK371.out (by decide)) (fun _ hk => hk.2) (.slice Ao46 t368.length co46)) (fun _ h_ => h_.1))) hb);replace HO370:=Aside0.mk (Kd.R_below (by refine zV0 ?_;exact (Kd.R_mono (Kd.R_far (p:=⟨gb371,0,none⟩) (Kd.R_types HO370.out BK371.out (by decide)) (fun _ hk => hk.2) (.slice Ao46 t368.length co46)) (fun _ h_ => h_.1))) hb);have HO374:=Aside0.mk (Kd.R_lower (Kd.R_new' ho0 (Kd.R_lt (by refine zV0 ?_;exact (Kd.R_mono (Kd.R_far (p:=⟨gb371,0,none⟩) (Kd.R_types HO359.out BK371.out (by decide)) (fun _ hk => hk.2) (.slice Ao46 t368.length co46)) (fun _ h_ => h_.1))))) (zZ0 HB.out));replace HO359:=Aside0.mk (Kd.R_elder' (by refine zV0 ?_;exact (Kd.R_mono (Kd.R_far (p:=⟨gb371,0,none⟩) (Kd.R_types HO359.out BK371.out (by decide)) (fun _ hk => hk.2) (.slice Ao46 t368.length co46)) (fun _ h_ => h_.1))) (Kd.R_base ho0) hb);replace BK351:=zb0 BK351 hb;replace BK367:=zb0 BK367 hb;replace BK371:=Aside0.mk (blk_below (g:=gb371) (o:=.cells #[.slice Ao46 t368.length co46] 30 (0,0)) (by refine zT0 ?_;refine blk_put (cs:=#[.slice none 0 0]) ?_ 0 _ rfl;exact zK0 BK371.out) hb);replace HB:=zs0 HB hb;(try clear hb);(try clear hk);(try clear ho0)) | ((with_reducible refine gate_callee (f:=30) rfl ?_);refine goesL_ (some 51) rfl rfl Try.func30 (by kernel_rfl) rfl #[.slice A3 l3.length c3] rfl zM0 ?_;(with_reducible refine (laws_toIntS.calls k _ _ l3 t375 _ ?side1 ?side2 A24.out).mono ?_);(case side1 => exact zA0 ((Kd.C_below HR3.out HB.out)));(case side2 => exact HC3.out);rintro e w51 ⟨v376,rfl,ho0,hb⟩;refine ⟨_,rfl,?_⟩;replace HO356:=Aside0.mk (Kd.R_below (zR0 HO356.out) hb);replace HO359:=Aside0.mk (Kd.R_below (zR0 HO359.out) hb);replace HO365:=Aside0.mk (Kd.R_below (zR0 HO365.out) hb);replace HO370:=Aside0.mk (Kd.R_below (zR0 HO370.out) hb);replace HO374:=Aside0.mk (Kd.R_below (zR0 HO374.out) hb);have HO377:=Aside0.mk (Kd.R_lower (Kd.R_new' ho0 (Kd.R_lt (zR0 HO362.out))) (zZ0 HB.out));replace HO362:=Aside0.mk (Kd.R_elder' (zR0 HO362.out) (Kd.R_base ho0) hb);replace BK351:=zb0 BK351 hb;replace BK367:=zb0 BK367 hb;replace BK371:=zb0 BK371 hb;replace HB:=zs0 HB hb;(try clear hb);(try clear hk);(try clear ho0);have hcz52_0:=zc00 BK371;have hfz52_0:=blk_frozen BK371.out 0;obtain ⟨Ao53,co53,eo53⟩:=Kd.R_slice HO374.out;subst eo53;obtain ⟨Ao54,co54,eo54⟩:=Kd.R_slice HO377.out;subst eo54) | ((with_reducible refine gate_callee (f:=46) rfl ?_);refine goesL_ (some 57) rfl rfl Try.func46 (by kernel_rfl) rfl #[.agg #[.slice Ao46 t368.length co46],.slice Ao53 t372.length co53,.int .i64 a2,.slice Ao54 t375.length co54] rfl zM0 ?_;(with_reducible refine (impl_CutActs.calls k _ _ t368 _ _ t372 a2 _ _ t375 t378 t381 _ ?side1 ?side2 ?side3 ?side4 ?side5 ?side6 A25.out).mono ?_);(case side1 => exact zA0 ((Kd.R_reads' HO370.out).2.2));(case side2 => exact (Kd.R_reads' HO370.out).2.1);(case side3 => exact zA0 ((Kd.R_reads' HO374.out).2.2));(case side4 => exact (Kd.R_reads' HO374.out).2.1);(case side5 => exact zA0 ((Kd.R_reads' HO377.out).2.2));(case side6 => exact (Kd.R_reads' HO377.out).2.1);rintro e w55 ⟨v379,rfl,ho0,hb⟩;refine ⟨_,rfl,?_⟩;replace HO359:=Aside0.mk (Kd.R_below (zR0 HO359.out) hb);replace HO362:=Aside0.mk (Kd.R_below (zR0 HO362.out) hb);replace HO374:=Aside0.mk (Kd.R_below (zR0 HO374.out) hb);replace HO377:=Aside0.mk (Kd.R_below (zR0 HO377.out) hb);have HO380:=Aside0.mk (Kd.R_lower (Kd.R_new' (Kd.R_new' (Kd.R_new' ho0 (Kd.R_lt (zR0 HO356.out))) (Kd.R_lt (zR0 HO365.out))) (Kd.R_lt (zR0 HO370.out))) (zZ0 HB.out));replace HO356:=Aside0.mk (Kd.R_elder' (zR0 HO356.out) (Kd.R_base ho0) hb);replace HO365:=Aside0.mk (Kd.R_elder' (zR0 HO365.out) (Kd.R_base ho0) hb);replace HO370:=Aside0.mk (Kd.R_elder' (zR0 HO370.out) (Kd.R_base ho0) hb);replace BK351:=zb0 BK351 hb;replace BK367:=zb0 BK367 hb;replace BK371:=zb0 BK371 hb;replace HB:=zs0 HB hb;(try clear hb);(try clear hk);(try clear ho0)) | ((with_reducible refine gate_dst (N:=15) rfl ?_);refine box_event ?hg (N:=15) ?hd (cs:=#[.slice none 0 0]) (t:=30) ?hr ?_;(case hd => rfl);(case hg => rfl);(case hr => first | (go_simp;done) | (go_simp;rfl));intro gb382 hg w56 hbox hb;replace HO356:=Aside0.mk (Kd.R_below (zR0 HO356.out) hb);replace HO359:=Aside0.mk (Kd.R_below (zR0 HO359.out) hb);replace HO362:=Aside0.mk (Kd.R_below (zR0 HO362.out) hb);replace HO365:=Aside0.mk (Kd.R_below (zR0 HO365.out) hb);replace HO370:=Aside0.mk (Kd.R_below (zR0 HO370.out) hb);replace HO374:=Aside0.mk (Kd.R_below (zR0 HO374.out) hb);replace HO377:=Aside0.mk (Kd.R_below (zR0 HO377.out) hb);replace HO380:=Aside0.mk (Kd.R_below (zR0 HO380.out) hb);have BK382:=Aside0.mk hbox;have GW382:=zz0 hg HB;have GE382:=zz0 hg HB;replace HB:=zs0 HB hb;have NB351_382:=zl0 hg BK351;have NB382_351:=zg0 hg BK351;replace BK351:=zb0 BK351 hb;have NB367_382:=zl0 hg BK367;have NB382_367:=zg0 hg BK367;replace BK367:=zb0 BK367 hb;have NB371_382:=zl0 hg BK371;have NB382_371:=zg0 hg BK371;replace BK371:=zb0 BK371 hb;clear hb hbox hg;obtain ⟨Ao57,co57,eo57⟩:=Kd.R_slice HO380.out;subst eo57;obtain ⟨_,_⟩:=zn0 NB382_351;obtain ⟨_,_⟩:=zn0 NB382_367;obtain ⟨_,_⟩:=zn0 NB382_371;have hcz61_0:=zc00 BK382;have hfz61_0:=blk_frozen BK382.out 0))
    (try simp only [Act.put,qA0,qB0,qC0])
    go_cut [68] (fun v68 wc => ∃ (kq : Nat) (x68_25 : Bool),v68 = .bool x68_25 ∧ Aside0 (laws_FnExactCutActs.j0 kq l1 a2 l3 t366 t372 t375 t381 x68_25 l0_0 t363 t368 t378 = some r) ∧ Aside0 (kq ≤ k) ∧ Aside0 (Kd.R k55 55 wc w.heap.size (fun _ => True) (.slice Ao53 t372.length co53) t372) ∧ Aside0 (Kd.R (Kd.int .i64) 3 wc w.heap.size (fun _ => True) (.slice Ao54 t375.length co54) t375) ∧ Aside0 (Kd.R k45 45 wc w.heap.size (fun k_ => some k_ ≠ ((.slice Ao46 t368.length co46) : Value).ownBlock ∧ some k_ ≠ ((.slice Ao57 t378.length co57) : Value).ownBlock) (.slice Ao40 t363.length co40) t363) ∧ Aside0 (Kd.R k45 45 wc w.heap.size (fun k_ => some k_ ≠ ((.slice Ao40 t363.length co40) : Value).ownBlock ∧ some k_ ≠ ((.slice Ao57 t378.length co57) : Value).ownBlock) (.slice Ao46 t368.length co46) t368) ∧ Aside0 (Kd.R k45 45 wc w.heap.size (fun k_ => some k_ ≠ ((.slice Ao40 t363.length co40) : Value).ownBlock ∧ some k_ ≠ ((.slice Ao46 t368.length co46) : Value).ownBlock) (.slice Ao57 t378.length co57) t378) ∧ Aside0 (wc.heap[gb351]? = some (.cells #[(.slice A0_0 l0_0.length c0_0)] 24 (0,0))) ∧ Aside0 (wc.heap[gb367]? = some (.cells #[(.slice Ao40 t363.length co40)] 30 (0,0))) ∧ Aside0 (wc.heap[gb371]? = some (.cells #[(.slice Ao46 t368.length co46)] 30 (0,0))) ∧ Aside0 (wc.heap[gb382]? = some (.cells #[(.slice Ao57 t378.length co57)] 30 (0,0))) ∧ Aside0 (Below w.heap.size w wc))
    case first =>
     have H:=HC26.out
     clear HC26
     replace H:=Option.bind_eq_some_iff.mp H
     obtain ⟨t383,A620,H⟩:=H
     replace H : (if t383 = true then (laws_FnExactCutActs.j0 k l1 a2 l3 t366 t372 t375 t381 (t381 != t366) l0_0 t363 t368 t378) else (laws_FnExactCutActs.j0 k l1 a2 l3 t366 t372 t375 t381 true l0_0 t363 t368 t378)) = some r:=H
     have A62:=Aside0.mk A620
     clear A620
     by_cases c63 : t383 = true
     ·subst c63
      have H1 : (laws_FnExactCutActs.j0 k l1 a2 l3 t366 t372 t375 t381 (t381 != t366) l0_0 t363 t368 t378) = some r:=by rw [if_pos rfl] at H;exact H
      clear H
      have H:=H1
      clear H1
      have H':=Aside0.mk H
      clear H
      obtain ⟨_,_⟩:=zn0 NB382_351
      obtain ⟨_,_⟩:=zn0 NB382_367
      obtain ⟨_,_⟩:=zn0 NB382_371
      have hcz67_0:=zc00 BK382
      have hfz67_0:=blk_frozen BK382.out 0
      obtain ⟨_,_⟩:=zn0 NB367_351
      obtain ⟨_,_⟩:=zn0 NB367_371
      have hcz70_0:=zc00 BK367
      have hfz70_0:=blk_frozen BK367.out 0
      go_wp2_with (first | ((with_reducible refine gate_callee (f:=18) rfl ?_);refine goesL_ (some 62) rfl rfl Try.func18 (by kernel_rfl) rfl #[.agg #[.slice Ao57 t378.length co57],.agg #[.slice Ao40 t363.length co40]] rfl zM0 ?_;(with_reducible refine (laws_eqDisk.calls k _ _ t378 _ _ t363 true _ ?side1 ?side2 ?side3 ?side4 A62.out).mono ?_);(case side1 => refine (Kd.R_reads' (e:=45) (base:=w.heap.size) (ok:=fun k_ => (((True ∧ some k_ ≠ (.slice Ao35 t354.length co35 : Value).ownBlock) ∧ some k_ ≠ (.slice Ao40 t363.length co40 : Value).ownBlock) ∧ some k_ ≠ (.slice Ao46 t368.length co46 : Value).ownBlock)) (n:=t378.length) (c:=co57) ?_).2.2;exact (by refine zV0 ?_;exact (Kd.R_mono (Kd.R_far (p:=⟨gb382,0,none⟩) (Kd.R_types HO380.out BK382.out (by decide)) (fun _ hk => hk.2) (.slice Ao57 t378.length co57)) (fun _ h_ => h_.1))));(case side2 => exact (Kd.R_reads' HO380.out).2.1);(case side3 => refine (Kd.R_reads' (e:=45) (base:=w.heap.size) (ok:=fun k_ => (((True ∧ some k_ ≠ (.slice Ao35 t354.length co35 : Value).ownBlock) ∧ some k_ ≠ (.slice Ao46 t368.length co46 : Value).ownBlock) ∧ some k_ ≠ (.slice Ao57 t378.length co57 : Value).ownBlock)) (n:=t363.length) (c:=co40) ?_).2.2;exact (by refine zV0 ?_;exact (Kd.R_mono (Kd.R_far (p:=⟨gb382,0,none⟩) (Kd.R_types HO365.out BK382.out (by decide)) (fun _ hk => hk.2) (.slice Ao57 t378.length co57)) (fun _ h_ => h_.1))));(case side4 => exact (Kd.R_reads' HO365.out).2.1);rintro e w71 ⟨rfl,hb⟩;refine ⟨_,rfl,?_⟩;replace HO356:=Aside0.mk (Kd.R_below (by refine zV0 ?_;exact (Kd.R_mono (Kd.R_far (p:=⟨gb382,0,none⟩) (Kd.R_types HO356.out BK382.out (by decide)) (fun _ hk => hk.2) (.slice Ao57 t378.length co57)) (fun _ h_ => h_.1))) hb);replace HO359:=Aside0.mk (Kd.R_below (by refine zV0 ?_;exact (Kd.R_mono (Kd.R_far (p:=⟨gb382,0,none⟩) (Kd.R_types HO359.out BK382.out (by decide)) (fun _ hk => hk.2) (.slice Ao57 t378.length co57)) (fun _ h_ => h_.1))) hb);replace HO362:=Aside0.mk (Kd.R_below (by refine zV0 ?_;exact (Kd.R_mono (Kd.R_far (p:=⟨gb382,0,none⟩) (Kd.R_types HO362.out BK382.out (by decide)) (fun _ hk => hk.2) (.slice Ao57 t378.length co57)) (fun _ h_ => h_.1))) hb);replace HO365:=Aside0.mk (Kd.R_below (by refine zV0 ?_;exact (Kd.R_mono (Kd.R_far (p:=⟨gb382,0,none⟩) (Kd.R_types HO365.out BK382.out (by decide)) (fun _ hk => hk.2) (.slice Ao57 t378.length co57)) (fun _ h_ => h_.1))) hb);replace HO370:=Aside0.mk (Kd.R_below (by refine zV0 ?_;exact (Kd.R_mono (Kd.R_far (p:=⟨gb382,0,none⟩) (Kd.R_types HO370.out BK382.out (by decide)) (fun _ hk => hk.2) (.slice Ao57 t378.length co57)) (fun _ h_ => h_.1))) hb);replace HO374:=Aside0.mk (Kd.R_below (by refine zV0 ?_;exact (Kd.R_mono (Kd.R_far (p:=⟨gb382,0,none⟩) (Kd.R_types HO374.out BK382.out (by decide)) (fun _ hk => hk.2) (.slice Ao57 t378.length co57)) (fun _ h_ => h_.1))) hb);replace HO377:=Aside0.mk (Kd.R_below (by refine zV0 ?_;exact (Kd.R_mono (Kd.R_far (p:=⟨gb382,0,none⟩) (Kd.R_types HO377.out BK382.out (by decide)) (fun _ hk => hk.2) (.slice Ao57 t378.length co57)) (fun _ h_ => h_.1))) hb);replace HO380:=Aside0.mk (Kd.R_below (by refine zV0 ?_;exact (Kd.R_mono (Kd.R_far (p:=⟨gb382,0,none⟩) (Kd.R_types HO380.out BK382.out (by decide)) (fun _ hk => hk.2) (.slice Ao57 t378.length co57)) (fun _ h_ => h_.1))) hb);replace BK351:=zb0 BK351 hb;replace BK367:=zb0 BK367 hb;replace BK371:=zb0 BK371 hb;replace BK382:=Aside0.mk (blk_below (g:=gb382) (o:=.cells #[.slice Ao57 t378.length co57] 30 (0,0)) (by refine zT0 ?_;refine blk_put (cs:=#[.slice none 0 0]) ?_ 0 _ rfl;exact zK0 BK382.out) hb);replace HB:=zs0 HB hb;(try clear hb);(try clear hk)))
      go_meet
      case rel => exact ⟨_,((t381 != t366)),zE0,H',⟨by first | omega | exact Nat.le_refl _⟩,⟨by refine zV0 ?_;exact Kd.R_mono HO374.out (fun _ hk => trivial)⟩,⟨by refine zV0 ?_;exact Kd.R_mono HO377.out (fun _ hk => trivial)⟩,⟨by refine zV0 ?_;exact Kd.R_mono HO365.out (fun _ hk => ⟨hk.1.2,hk.2⟩)⟩,⟨by refine zV0 ?_;exact Kd.R_mono HO370.out (fun _ hk => ⟨hk.1.2,hk.2⟩)⟩,⟨by refine zV0 ?_;exact Kd.R_mono HO380.out (fun _ hk => ⟨hk.1.2,hk.2⟩)⟩,⟨zK0 BK351.out⟩,⟨zK0 BK367.out⟩,⟨zK0 BK371.out⟩,⟨zK0 BK382.out⟩,⟨zY0 HB.out⟩⟩
     ·replace c63:=Bool.eq_false_iff.mpr c63
      subst c63
      have H1 : (laws_FnExactCutActs.j0 k l1 a2 l3 t366 t372 t375 t381 true l0_0 t363 t368 t378) = some r:=by rw [if_neg (show ¬ (false = true) by decide)] at H;exact H
      exact absurd (H1.trans (congrArg some hrt)) (by first | simp | (cases k <;> simp [laws_FnExactCutActs.j0,laws_FnExactCutActs.j1,laws_FnExactCutActs.j2]))
    case rest =>
     clear HC26
     try clear c5
     try clear c5b0
     try clear c5b1
     try clear c8
     try clear c8b0
     try clear c13
     try clear c13b0
     try clear hcz28_0
     try clear hcz31_0
     try clear hcz42_0
     try clear hcz43_0
     try clear hcz49_0
     try clear hcz52_0
     try clear hcz61_0
     try clear hcz75_0
     try clear hcz78_0
     try clear hfz28_0
     try clear hfz31_0
     try clear hfz42_0
     try clear hfz43_0
     try clear hfz49_0
     try clear hfz52_0
     try clear hfz61_0
     try clear hfz75_0
     try clear hfz78_0
     obtain ⟨kq,x68_25,rfl,HA,HJ25,HO_13,HO_14,HO_368000,HO_372000,HO_383000,BK351,BK367,BK371,BK382,HB⟩:=hcut
     cases kq with
     | zero => exact absurd HA.out (by simp [laws_FnExactCutActs.j0])
     | succ kj25 =>
      have H:=HA.out
      clear HA
      simp only [laws_FnExactCutActs.j0] at H
      by_cases c80 : x68_25 = true
      ·subst c80
       have H1 : (some false) = some r:=by rw [if_pos rfl] at H;exact H
       exact absurd (H1.trans (congrArg some hrt)) (by first | simp | (cases kj25 <;> simp [laws_FnExactCutActs.j0,laws_FnExactCutActs.j1,laws_FnExactCutActs.j2]) | (cases k <;> simp [laws_FnExactCutActs.j0,laws_FnExactCutActs.j1,laws_FnExactCutActs.j2]))
      ·replace c80:=Bool.eq_false_iff.mpr c80
       subst c80
       have H1 : ((laws_toDisk.f kj25 l0_0).bind fun t384 => ((laws_eqDisk.f kj25 t368 t384).bind fun t387 => (if t387 = true then ((laws_toActS.f kj25 l1).bind fun t388 => ((laws_eqActS.f kj25 t372 t388).bind fun t391 => (if t391 = true then ((laws_toIntS.f kj25 l3).bind fun t392 => ((laws_eqIntS.f kj25 t375 t392).bind fun t395 => (if t395 = true then ((laws_markDisk.f kj25 t368 1).bind fun bt396 => ((laws_markActS.f kj25 t372 bt396.1).bind fun bt398 => ((laws_markIntS.f kj25 t375 bt398.1).bind fun bt400 => (if bt400.1 < 0 then (laws_FnExactCutActs.j1 kj25 l1 a2 l3 t366 true l0_0 t363 t378) else ((laws_eqDisk.f kj25 t378 t363).bind fun t402 => (if t402 = true then (laws_FnExactCutActs.j1 kj25 l1 a2 l3 t366 (t381 != t366) l0_0 t363 t378) else (laws_FnExactCutActs.j1 kj25 l1 a2 l3 t366 true l0_0 t363 t378))))))) else (some false)))) else (some false)))) else (some false)))) = some r:=by rw [if_neg (show ¬ (false = true) by decide)] at H;exact H
       clear H
       have H:=H1
       clear H1
       replace H:=Option.bind_eq_some_iff.mp H
       obtain ⟨t384,A810,H⟩:=H
       replace H : ((laws_eqDisk.f kj25 t368 t384).bind fun t387 => (if t387 = true then ((laws_toActS.f kj25 l1).bind fun t388 => ((laws_eqActS.f kj25 t372 t388).bind fun t391 => (if t391 = true then ((laws_toIntS.f kj25 l3).bind fun t392 => ((laws_eqIntS.f kj25 t375 t392).bind fun t395 => (if t395 = true then ((laws_markDisk.f kj25 t368 1).bind fun bt396 => ((laws_markActS.f kj25 t372 bt396.1).bind fun bt398 => ((laws_markIntS.f kj25 t375 bt398.1).bind fun bt400 => (if bt400.1 < 0 then (laws_FnExactCutActs.j1 kj25 l1 a2 l3 t366 true l0_0 t363 t378) else ((laws_eqDisk.f kj25 t378 t363).bind fun t402 => (if t402 = true then (laws_FnExactCutActs.j1 kj25 l1 a2 l3 t366 (t381 != t366) l0_0 t363 t378) else (laws_FnExactCutActs.j1 kj25 l1 a2 l3 t366 true l0_0 t363 t378))))))) else (some false)))) else (some false)))) else (some false))) = some r:=H
       have A81:=Aside0.mk A810
       clear A810
       replace H:=Option.bind_eq_some_iff.mp H
       obtain ⟨t387,A820,H⟩:=H
       replace H : (if t387 = true then ((laws_toActS.f kj25 l1).bind fun t388 => ((laws_eqActS.f kj25 t372 t388).bind fun t391 => (if t391 = true then ((laws_toIntS.f kj25 l3).bind fun t392 => ((laws_eqIntS.f kj25 t375 t392).bind fun t395 => (if t395 = true then ((laws_markDisk.f kj25 t368 1).bind fun bt396 => ((laws_markActS.f kj25 t372 bt396.1).bind fun bt398 => ((laws_markIntS.f kj25 t375 bt398.1).bind fun bt400 => (if bt400.1 < 0 then (laws_FnExactCutActs.j1 kj25 l1 a2 l3 t366 true l0_0 t363 t378) else ((laws_eqDisk.f kj25 t378 t363).bind fun t402 => (if t402 = true then (laws_FnExactCutActs.j1 kj25 l1 a2 l3 t366 (t381 != t366) l0_0 t363 t378) else (laws_FnExactCutActs.j1 kj25 l1 a2 l3 t366 true l0_0 t363 t378))))))) else (some false)))) else (some false)))) else (some false)) = some r:=H
       have A82:=Aside0.mk A820
       clear A820
       by_cases c83 : t387 = true
       ·subst c83
        have H1 : ((laws_toActS.f kj25 l1).bind fun t388 => ((laws_eqActS.f kj25 t372 t388).bind fun t391 => (if t391 = true then ((laws_toIntS.f kj25 l3).bind fun t392 => ((laws_eqIntS.f kj25 t375 t392).bind fun t395 => (if t395 = true then ((laws_markDisk.f kj25 t368 1).bind fun bt396 => ((laws_markActS.f kj25 t372 bt396.1).bind fun bt398 => ((laws_markIntS.f kj25 t375 bt398.1).bind fun bt400 => (if bt400.1 < 0 then (laws_FnExactCutActs.j1 kj25 l1 a2 l3 t366 true l0_0 t363 t378) else ((laws_eqDisk.f kj25 t378 t363).bind fun t402 => (if t402 = true then (laws_FnExactCutActs.j1 kj25 l1 a2 l3 t366 (t381 != t366) l0_0 t363 t378) else (laws_FnExactCutActs.j1 kj25 l1 a2 l3 t366 true l0_0 t363 t378))))))) else (some false)))) else (some false)))) = some r:=by rw [if_pos rfl] at H;exact H
        clear H
        have H:=H1
        clear H1
        replace H:=Option.bind_eq_some_iff.mp H
        obtain ⟨t388,A840,H⟩:=H
        replace H : ((laws_eqActS.f kj25 t372 t388).bind fun t391 => (if t391 = true then ((laws_toIntS.f kj25 l3).bind fun t392 => ((laws_eqIntS.f kj25 t375 t392).bind fun t395 => (if t395 = true then ((laws_markDisk.f kj25 t368 1).bind fun bt396 => ((laws_markActS.f kj25 t372 bt396.1).bind fun bt398 => ((laws_markIntS.f kj25 t375 bt398.1).bind fun bt400 => (if bt400.1 < 0 then (laws_FnExactCutActs.j1 kj25 l1 a2 l3 t366 true l0_0 t363 t378) else ((laws_eqDisk.f kj25 t378 t363).bind fun t402 => (if t402 = true then (laws_FnExactCutActs.j1 kj25 l1 a2 l3 t366 (t381 != t366) l0_0 t363 t378) else (laws_FnExactCutActs.j1 kj25 l1 a2 l3 t366 true l0_0 t363 t378))))))) else (some false)))) else (some false))) = some r:=H
        have A84:=Aside0.mk A840
        clear A840
        replace H:=Option.bind_eq_some_iff.mp H
        obtain ⟨t391,A850,H⟩:=H
        replace H : (if t391 = true then ((laws_toIntS.f kj25 l3).bind fun t392 => ((laws_eqIntS.f kj25 t375 t392).bind fun t395 => (if t395 = true then ((laws_markDisk.f kj25 t368 1).bind fun bt396 => ((laws_markActS.f kj25 t372 bt396.1).bind fun bt398 => ((laws_markIntS.f kj25 t375 bt398.1).bind fun bt400 => (if bt400.1 < 0 then (laws_FnExactCutActs.j1 kj25 l1 a2 l3 t366 true l0_0 t363 t378) else ((laws_eqDisk.f kj25 t378 t363).bind fun t402 => (if t402 = true then (laws_FnExactCutActs.j1 kj25 l1 a2 l3 t366 (t381 != t366) l0_0 t363 t378) else (laws_FnExactCutActs.j1 kj25 l1 a2 l3 t366 true l0_0 t363 t378))))))) else (some false)))) else (some false)) = some r:=H
        have A85:=Aside0.mk A850
        clear A850
        by_cases c86 : t391 = true
        ·subst c86
         have H1 : ((laws_toIntS.f kj25 l3).bind fun t392 => ((laws_eqIntS.f kj25 t375 t392).bind fun t395 => (if t395 = true then ((laws_markDisk.f kj25 t368 1).bind fun bt396 => ((laws_markActS.f kj25 t372 bt396.1).bind fun bt398 => ((laws_markIntS.f kj25 t375 bt398.1).bind fun bt400 => (if bt400.1 < 0 then (laws_FnExactCutActs.j1 kj25 l1 a2 l3 t366 true l0_0 t363 t378) else ((laws_eqDisk.f kj25 t378 t363).bind fun t402 => (if t402 = true then (laws_FnExactCutActs.j1 kj25 l1 a2 l3 t366 (t381 != t366) l0_0 t363 t378) else (laws_FnExactCutActs.j1 kj25 l1 a2 l3 t366 true l0_0 t363 t378))))))) else (some false)))) = some r:=by rw [if_pos rfl] at H;exact H
         clear H
         have H:=H1
         clear H1
         replace H:=Option.bind_eq_some_iff.mp H
         obtain ⟨t392,A870,H⟩:=H
         replace H : ((laws_eqIntS.f kj25 t375 t392).bind fun t395 => (if t395 = true then ((laws_markDisk.f kj25 t368 1).bind fun bt396 => ((laws_markActS.f kj25 t372 bt396.1).bind fun bt398 => ((laws_markIntS.f kj25 t375 bt398.1).bind fun bt400 => (if bt400.1 < 0 then (laws_FnExactCutActs.j1 kj25 l1 a2 l3 t366 true l0_0 t363 t378) else ((laws_eqDisk.f kj25 t378 t363).bind fun t402 => (if t402 = true then (laws_FnExactCutActs.j1 kj25 l1 a2 l3 t366 (t381 != t366) l0_0 t363 t378) else (laws_FnExactCutActs.j1 kj25 l1 a2 l3 t366 true l0_0 t363 t378))))))) else (some false))) = some r:=H
         have A87:=Aside0.mk A870
         clear A870
         replace H:=Option.bind_eq_some_iff.mp H
         obtain ⟨t395,A880,H⟩:=H
         replace H : (if t395 = true then ((laws_markDisk.f kj25 t368 1).bind fun bt396 => ((laws_markActS.f kj25 t372 bt396.1).bind fun bt398 => ((laws_markIntS.f kj25 t375 bt398.1).bind fun bt400 => (if bt400.1 < 0 then (laws_FnExactCutActs.j1 kj25 l1 a2 l3 t366 true l0_0 t363 t378) else ((laws_eqDisk.f kj25 t378 t363).bind fun t402 => (if t402 = true then (laws_FnExactCutActs.j1 kj25 l1 a2 l3 t366 (t381 != t366) l0_0 t363 t378) else (laws_FnExactCutActs.j1 kj25 l1 a2 l3 t366 true l0_0 t363 t378))))))) else (some false)) = some r:=H
         have A88:=Aside0.mk A880
         clear A880
         by_cases c89 : t395 = true
         ·subst c89
          have H1 : ((laws_markDisk.f kj25 t368 1).bind fun bt396 => ((laws_markActS.f kj25 t372 bt396.1).bind fun bt398 => ((laws_markIntS.f kj25 t375 bt398.1).bind fun bt400 => (if bt400.1 < 0 then (laws_FnExactCutActs.j1 kj25 l1 a2 l3 t366 true l0_0 t363 t378) else ((laws_eqDisk.f kj25 t378 t363).bind fun t402 => (if t402 = true then (laws_FnExactCutActs.j1 kj25 l1 a2 l3 t366 (t381 != t366) l0_0 t363 t378) else (laws_FnExactCutActs.j1 kj25 l1 a2 l3 t366 true l0_0 t363 t378))))))) = some r:=by rw [if_pos rfl] at H;exact H
          clear H
          have H:=H1
          clear H1
          replace H:=Option.bind_eq_some_iff.mp H
          obtain ⟨⟨t396,t397⟩,A900,H⟩:=H
          replace H : ((laws_markActS.f kj25 t372 t396).bind fun bt398 => ((laws_markIntS.f kj25 t375 bt398.1).bind fun bt400 => (if bt400.1 < 0 then (laws_FnExactCutActs.j1 kj25 l1 a2 l3 t366 true l0_0 t363 t378) else ((laws_eqDisk.f kj25 t378 t363).bind fun t402 => (if t402 = true then (laws_FnExactCutActs.j1 kj25 l1 a2 l3 t366 (t381 != t366) l0_0 t363 t378) else (laws_FnExactCutActs.j1 kj25 l1 a2 l3 t366 true l0_0 t363 t378)))))) = some r:=H
          have A90:=Aside0.mk A900
          clear A900
          replace H:=Option.bind_eq_some_iff.mp H
          obtain ⟨⟨t398,t399⟩,A910,H⟩:=H
          replace H : ((laws_markIntS.f kj25 t375 t398).bind fun bt400 => (if bt400.1 < 0 then (laws_FnExactCutActs.j1 kj25 l1 a2 l3 t366 true l0_0 t363 t378) else ((laws_eqDisk.f kj25 t378 t363).bind fun t402 => (if t402 = true then (laws_FnExactCutActs.j1 kj25 l1 a2 l3 t366 (t381 != t366) l0_0 t363 t378) else (laws_FnExactCutActs.j1 kj25 l1 a2 l3 t366 true l0_0 t363 t378))))) = some r:=H
          have A91:=Aside0.mk A910
          clear A910
          replace H:=Option.bind_eq_some_iff.mp H
          obtain ⟨⟨t400,t401⟩,A920,H⟩:=H
          replace H : (if t400 < 0 then (laws_FnExactCutActs.j1 kj25 l1 a2 l3 t366 true l0_0 t363 t378) else ((laws_eqDisk.f kj25 t378 t363).bind fun t402 => (if t402 = true then (laws_FnExactCutActs.j1 kj25 l1 a2 l3 t366 (t381 != t366) l0_0 t363 t378) else (laws_FnExactCutActs.j1 kj25 l1 a2 l3 t366 true l0_0 t363 t378)))) = some r:=H
          have A92:=Aside0.mk A920
          clear A920
          have HC93:=Aside0.mk H
          clear H
          try go_wp2
          replace HO_13:=Aside0.mk (Kd.R_drew HO_13.out)
          replace HO_14:=Aside0.mk (Kd.R_drew HO_14.out)
          replace HO_368000:=Aside0.mk (Kd.R_drew HO_368000.out)
          replace HO_372000:=Aside0.mk (Kd.R_drew HO_372000.out)
          replace HO_383000:=Aside0.mk (Kd.R_drew HO_383000.out)
          replace BK351:=Aside0.mk (blk_drew BK351.out)
          replace BK367:=Aside0.mk (blk_drew BK367.out)
          replace BK371:=Aside0.mk (blk_drew BK371.out)
          replace BK382:=Aside0.mk (blk_drew BK382.out)
          replace HB:=Aside0.mk (below_drew1 HB.out)
          refine start_ (n:=5) (S:=fun w' => w'.cell? ⟨gb371,0,none⟩ = some (.slice Ao46 t368.length co46) ∧ w'.cell? ⟨gb351,0,none⟩ = some (.slice A0_0 l0_0.length c0_0)) (ds:=[]) (zF0 5 0) (by kernel_rfl) rfl rfl ⟨(blk_cell BK371.out 0).trans rfl,(blk_cell BK351.out 0).trans rfl⟩ (fun hHeld => ?_)
          generalize wc.drew = w94 at HO_13 HO_14 HO_368000 HO_372000 HO_383000 BK351 BK367 BK371 BK382 HB hHeld ⊢
          refine take_ (i:=0) (N:=some 69) (v:=?_) (a':=?_) (zF0 5 1) rfl rfl (by kernel_rfl) (fun _ _ _ h => h) (Or.inl ⟨by rfl,?_⟩) hHeld ?_ ?_;rotate_left
          ·rintro w' ⟨s0,s1⟩
           go_simp
           with_reducible rfl
          rotate_left
          ·simp only [Act.put,qA0,qB0,qC0,i64_w,i32_w];rfl
          refine take_ (i:=1) (N:=some 70) (v:=?_) (a':=?_) (zF0 5 3) rfl rfl (by kernel_rfl) (fun _ _ _ h => h) (Or.inl ⟨by rfl,?_⟩) hHeld ?_ ?_;rotate_left
          ·rintro w' ⟨s0,s1⟩
           go_simp
           with_reducible rfl
          rotate_left
          ·simp only [Act.put,qA0,qB0,qC0,i64_w,i32_w];rfl
          refine one_ (i:=2) (N:=some 71) (zF0 5 7) rfl rfl (by kernel_rfl) (by decide) (fun K hK => ?_)
          refine goes_ Try.func16 (by kernel_rfl) rfl #[.agg #[.slice A0_0 l0_0.length c0_0]] (by rfl) rfl rfl zM0 ?_
          with_reducible refine (laws_toDisk.calls kj25 _ _ l0_0 t384 _ ?side1 ?side2 A81.out).mono ?_
          (case side1 => exact zA0 ((Kd.C_below HR0_0.out HB.out)))
          (case side2 => exact HC0_0.out)
          rintro e w95 ⟨v385,rfl,ho0,hb⟩
          refine ⟨_,rfl,?_⟩
          replace HO_13:=Aside0.mk (Kd.R_below (zR0 HO_13.out) hb)
          replace HO_14:=Aside0.mk (Kd.R_below (zR0 HO_14.out) hb)
          have HO386:=Aside0.mk (Kd.R_lower (Kd.R_new' (Kd.R_new' (Kd.R_new' ho0 (Kd.R_lt (zR0 HO_368000.out))) (Kd.R_lt (zR0 HO_372000.out))) (Kd.R_lt (zR0 HO_383000.out))) (zZ0 HB.out))
          replace HO_368000:=Aside0.mk (Kd.R_elder' (zR0 HO_368000.out) (Kd.R_base ho0) hb)
          replace HO_372000:=Aside0.mk (Kd.R_elder' (zR0 HO_372000.out) (Kd.R_base ho0) hb)
          replace HO_383000:=Aside0.mk (Kd.R_elder' (zR0 HO_383000.out) (Kd.R_base ho0) hb)
          replace BK351:=zb0 BK351 hb
          replace BK367:=zb0 BK367 hb
          replace BK371:=zb0 BK371 hb
          replace BK382:=zb0 BK382 hb
          replace HB:=zs0 HB hb
          (try clear hb)
          (try clear hb2)
          (try clear hk)
          (try clear hi)
          (try clear ho0)
          obtain ⟨Ao96,co96,eo96⟩:=Kd.R_slice HO386.out
          (first | subst eo96 | (injection eo96 with f1_ f2_ f3_;have f4_:=f1_.symm;have f5_:=f3_.symm;clear f1_ f2_ f3_;subst f4_;subst f5_))
          refine hK.out _ _ ⟨(blk_cell BK371.out 0).trans rfl,(blk_cell BK351.out 0).trans rfl⟩ (fun hHeld => ?_)
          clear hK K
          refine norm_ (a':=?_) ?_ ?_;rotate_left
          ·show Act.put _ (some 71) _ = _;simp only [Act.put,qA0,qB0,qC0,i64_w,i32_w];rfl
          refine one_ (i:=3) (N:=some 72) (zF0 5 15) rfl rfl (by kernel_rfl) (by decide) (fun K hK => ?_)
          refine goes_ Try.func18 (by kernel_rfl) rfl #[.agg #[.slice Ao46 t368.length co46],.agg #[.slice Ao96 t384.length co96]] (by rfl) rfl rfl zM0 ?_
          with_reducible refine (laws_eqDisk.calls kj25 _ _ t368 _ _ t384 true _ ?side1 ?side2 ?side3 ?side4 A82.out).mono ?_
          (case side1 => exact zA0 ((Kd.R_reads' HO_372000.out).2.2))
          (case side2 => exact (Kd.R_reads' HO_372000.out).2.1)
          (case side3 => exact zA0 ((Kd.R_reads' HO386.out).2.2))
          (case side4 => exact (Kd.R_reads' HO386.out).2.1)
          rintro e w97 ⟨rfl,hb⟩
          refine ⟨_,rfl,?_⟩
          replace HO_13:=Aside0.mk (Kd.R_below (zR0 HO_13.out) hb)
          replace HO_14:=Aside0.mk (Kd.R_below (zR0 HO_14.out) hb)
          replace HO_368000:=Aside0.mk (Kd.R_below (zR0 HO_368000.out) hb)
          replace HO_372000:=Aside0.mk (Kd.R_below (zR0 HO_372000.out) hb)
          replace HO_383000:=Aside0.mk (Kd.R_below (zR0 HO_383000.out) hb)
          replace HO386:=Aside0.mk (Kd.R_below (zR0 HO386.out) hb)
          replace BK351:=zb0 BK351 hb
          replace BK367:=zb0 BK367 hb
          replace BK371:=zb0 BK371 hb
          replace BK382:=zb0 BK382 hb
          replace HB:=zs0 HB hb
          (try clear hb)
          (try clear hb2)
          (try clear hk)
          (try clear hi)
          refine hK.out _ _ ⟨(blk_cell BK371.out 0).trans rfl,(blk_cell BK351.out 0).trans rfl⟩ (fun hHeld => ?_)
          clear hK K
          refine norm_ (a':=?_) ?_ ?_;rotate_left
          ·show Act.put _ (some 72) _ = _;simp only [Act.put,qA0,qB0,qC0,i64_w,i32_w];rfl
          refine pure_ (i:=4) (N:=some 73) (v:=?_) (a':=?_) (zF0 5 31) rfl rfl (by kernel_rfl) (fun _ _ _ h => h) (Or.inl ⟨by rfl,?_⟩) ?_ ?_;rotate_left
          ·intro w';go_simp;with_reducible rfl
          rotate_left
          ·simp only [Act.put,qA0,qB0,qC0,i64_w,i32_w];rfl
          refine done_ (by kernel_rfl) ?_
          go_upto_region 27 with (first | ((with_reducible refine gate_callee (f:=41) rfl ?_);refine goesL_ (some 76) rfl rfl Try.func41 (by kernel_rfl) rfl #[.slice A1 l1.length c1] rfl zM0 ?_;(with_reducible refine (laws_toActS.calls kj25 _ _ l1 t388 _ ?side1 ?side2 A84.out).mono ?_);(case side1 => exact zA0 ((Kd.C_below HR1.out HB.out)));(case side2 => exact HC1.out);rintro e w98 ⟨v389,rfl,ho0,hb⟩;refine ⟨_,rfl,?_⟩;replace HO_14:=Aside0.mk (Kd.R_below (zR0 HO_14.out) hb);replace HO_368000:=Aside0.mk (Kd.R_below (zR0 HO_368000.out) hb);replace HO_372000:=Aside0.mk (Kd.R_below (zR0 HO_372000.out) hb);replace HO_383000:=Aside0.mk (Kd.R_below (zR0 HO_383000.out) hb);replace HO386:=Aside0.mk (Kd.R_below (zR0 HO386.out) hb);have HO390:=Aside0.mk (Kd.R_lower (Kd.R_new' ho0 (Kd.R_lt (zR0 HO_13.out))) (zZ0 HB.out));replace HO_13:=Aside0.mk (Kd.R_elder' (zR0 HO_13.out) (Kd.R_base ho0) hb);replace BK351:=zb0 BK351 hb;replace BK367:=zb0 BK367 hb;replace BK371:=zb0 BK371 hb;replace BK382:=zb0 BK382 hb;replace HB:=zs0 HB hb;(try clear hb);(try clear ho0);obtain ⟨Ao99,co99,eo99⟩:=Kd.R_slice HO390.out;subst eo99) | ((with_reducible refine gate_callee (f:=43) rfl ?_);refine goesL_ (some 77) rfl rfl Try.func43 (by kernel_rfl) rfl #[.slice Ao53 t372.length co53,.slice Ao99 t388.length co99] rfl zM0 ?_;(with_reducible refine (laws_eqActS.calls kj25 _ _ t372 _ _ t388 true _ ?side1 ?side2 ?side3 ?side4 A85.out).mono ?_);(case side1 => exact zA0 ((Kd.R_reads' HO_13.out).2.2));(case side2 => exact (Kd.R_reads' HO_13.out).2.1);(case side3 => exact zA0 ((Kd.R_reads' HO390.out).2.2));(case side4 => exact (Kd.R_reads' HO390.out).2.1);rintro e w100 ⟨rfl,hb⟩;refine ⟨_,rfl,?_⟩;replace HO_13:=Aside0.mk (Kd.R_below (zR0 HO_13.out) hb);replace HO_14:=Aside0.mk (Kd.R_below (zR0 HO_14.out) hb);replace HO_368000:=Aside0.mk (Kd.R_below (zR0 HO_368000.out) hb);replace HO_372000:=Aside0.mk (Kd.R_below (zR0 HO_372000.out) hb);replace HO_383000:=Aside0.mk (Kd.R_below (zR0 HO_383000.out) hb);replace HO386:=Aside0.mk (Kd.R_below (zR0 HO386.out) hb);replace HO390:=Aside0.mk (Kd.R_below (zR0 HO390.out) hb);replace BK351:=zb0 BK351 hb;replace BK367:=zb0 BK367 hb;replace BK371:=zb0 BK371 hb;replace BK382:=zb0 BK382 hb;replace HB:=zs0 HB hb;(try clear hb)) | ((with_reducible refine gate_callee (f:=30) rfl ?_);refine goesL_ (some 81) rfl rfl Try.func30 (by kernel_rfl) rfl #[.slice A3 l3.length c3] rfl zM0 ?_;(with_reducible refine (laws_toIntS.calls kj25 _ _ l3 t392 _ ?side1 ?side2 A87.out).mono ?_);(case side1 => exact zA0 ((Kd.C_below HR3.out HB.out)));(case side2 => exact HC3.out);rintro e w101 ⟨v393,rfl,ho0,hb⟩;refine ⟨_,rfl,?_⟩;replace HO_13:=Aside0.mk (Kd.R_below (zR0 HO_13.out) hb);replace HO_368000:=Aside0.mk (Kd.R_below (zR0 HO_368000.out) hb);replace HO_372000:=Aside0.mk (Kd.R_below (zR0 HO_372000.out) hb);replace HO_383000:=Aside0.mk (Kd.R_below (zR0 HO_383000.out) hb);replace HO386:=Aside0.mk (Kd.R_below (zR0 HO386.out) hb);replace HO390:=Aside0.mk (Kd.R_below (zR0 HO390.out) hb);have HO394:=Aside0.mk (Kd.R_lower (Kd.R_new' ho0 (Kd.R_lt (zR0 HO_14.out))) (zZ0 HB.out));replace HO_14:=Aside0.mk (Kd.R_elder' (zR0 HO_14.out) (Kd.R_base ho0) hb);replace BK351:=zb0 BK351 hb;replace BK367:=zb0 BK367 hb;replace BK371:=zb0 BK371 hb;replace BK382:=zb0 BK382 hb;replace HB:=zs0 HB hb;(try clear hb);(try clear ho0);obtain ⟨Ao102,co102,eo102⟩:=Kd.R_slice HO394.out;subst eo102) | ((with_reducible refine gate_callee (f:=31) rfl ?_);refine goesL_ (some 82) rfl rfl Try.func31 (by kernel_rfl) rfl #[.slice Ao54 t375.length co54,.slice Ao102 t392.length co102] rfl zM0 ?_;(with_reducible refine (laws_eqIntS.calls kj25 _ _ t375 _ _ t392 true _ ?side1 ?side2 ?side3 ?side4 A88.out).mono ?_);(case side1 => exact zA0 ((Kd.R_reads' HO_14.out).2.2));(case side2 => exact (Kd.R_reads' HO_14.out).2.1);(case side3 => exact zA0 ((Kd.R_reads' HO394.out).2.2));(case side4 => exact (Kd.R_reads' HO394.out).2.1);rintro e w' ⟨rfl,⟨nd,rfl⟩⟩;refine ⟨_,rfl,?_⟩;obtain ⟨_,_⟩:=zn0 NB371_351;obtain ⟨_,_⟩:=zn0 NB371_367;obtain ⟨_,_⟩:=zn0 NB371_382;have hcz106_0:=zc00 BK371;have hfz106_0:=blk_frozen BK371.out 0) | ((with_reducible refine gate_callee (f:=32) rfl ?_);refine goesL_ (some 86) rfl rfl Try.func32 (by kernel_rfl) rfl #[.agg #[.slice Ao46 t368.length co46],.int .i64 1] rfl zM0 ?_;(with_reducible refine (laws_markDisk.calls kj25 (fun k_ => some k_ = (.slice Ao46 t368.length co46 : Value).ownBlock) (.slice Ao46 t368.length co46) t368 1 t396 t397 w _ ?side1 ?side2 A90.out).mono ?_);(case side1 => repeat (first | (with_reducible first | exact HB.out | apply below_alloc | apply pw_below_drewN | apply below_drew1 | refine below_set ?_ GE351.out | refine below_set ?_ GE367.out | refine below_set ?_ GE371.out | refine below_set ?_ GE382.out) | exact HB.out));(case side2 => exact Kd.R_tight rfl HO_372000.out);rintro e w107 ⟨rfl,hy0,hb,hkp⟩;refine ⟨_,rfl,?_⟩;replace HO_13:=Aside0.mk (Kd.R_mono (ok':=fun k_ => some k_ ≠ (.slice Ao99 t388.length co99 : Value).ownBlock) (Kd.R_keptB ((Kd.R_apart' HO_13.out (Kd.R_typed HO_372000.out) (by decide))) hkp (fun k_ hk_ hs_ => (hk_.2) hs_)) (fun k_ hk_ => hk_.1.1.2));replace HO_14:=Aside0.mk (Kd.R_mono (ok':=fun k_ => some k_ ≠ (.slice Ao102 t392.length co102 : Value).ownBlock) (Kd.R_keptB ((Kd.R_apart' HO_14.out (Kd.R_typed HO_372000.out) (by decide))) hkp (fun k_ hk_ hs_ => (hk_.2) hs_)) (fun k_ hk_ => hk_.1.1.2));replace HO_368000:=Aside0.mk (Kd.R_mono (ok':=fun k_ => some k_ ≠ (.slice Ao46 t368.length co46 : Value).ownBlock ∧ some k_ ≠ (.slice Ao57 t378.length co57 : Value).ownBlock ∧ some k_ ≠ (.slice Ao96 t384.length co96 : Value).ownBlock) (Kd.R_keptB (HO_368000.out) hkp (fun k_ hk_ hs_ => (hk_.1.1) hs_)) (fun k_ hk_ => ⟨hk_.1.1.1,hk_.1.1.2,hk_.1.2⟩));replace HO_383000:=Aside0.mk (Kd.R_mono (ok':=fun k_ => some k_ ≠ (.slice Ao40 t363.length co40 : Value).ownBlock ∧ some k_ ≠ (.slice Ao46 t368.length co46 : Value).ownBlock ∧ some k_ ≠ (.slice Ao96 t384.length co96 : Value).ownBlock) (Kd.R_keptB (HO_383000.out) hkp (fun k_ hk_ hs_ => (hk_.1.2) hs_)) (fun k_ hk_ => ⟨hk_.1.1.1,hk_.1.1.2,hk_.1.2⟩));replace BK351:=Aside0.mk (blk_kept (zK0 BK351.out) hkp (fun hs_ => (fun e_ => (Kd.R_ne HO_372000.out BK351.out (by decide)) e_) hs_));replace BK367:=Aside0.mk (blk_kept (zK0 BK367.out) hkp (fun hs_ => (fun e_ => (Kd.R_ne HO_372000.out BK367.out (by decide)) e_) hs_));replace BK371:=Aside0.mk (blk_kept (zK0 BK371.out) hkp (fun hs_ => (fun e_ => (Kd.R_ne HO_372000.out BK371.out (by decide)) e_) hs_));replace BK382:=Aside0.mk (blk_kept (zK0 BK382.out) hkp (fun hs_ => (fun e_ => (Kd.R_ne HO_372000.out BK382.out (by decide)) e_) hs_));replace HO386:=Aside0.mk (Kd.R_mono (ok':=fun k_ => some k_ ≠ (.slice Ao40 t363.length co40 : Value).ownBlock ∧ some k_ ≠ (.slice Ao46 t368.length co46 : Value).ownBlock ∧ some k_ ≠ (.slice Ao57 t378.length co57 : Value).ownBlock) (Kd.R_keptB (HO386.out) hkp (fun k_ hk_ hs_ => (hk_.1.2) hs_)) (fun k_ hk_ => ⟨hk_.1.1.1.2,hk_.1.1.2,hk_.1.2⟩));replace HO390:=Aside0.mk (Kd.R_mono (ok':=fun k_ => some k_ ≠ (.slice Ao53 t372.length co53 : Value).ownBlock) (Kd.R_keptB ((Kd.R_apart' HO390.out (Kd.R_typed HO_372000.out) (by decide))) hkp (fun k_ hk_ hs_ => (hk_.2) hs_)) (fun k_ hk_ => hk_.1.1.2));replace HO394:=Aside0.mk (Kd.R_mono (ok':=fun k_ => some k_ ≠ (.slice Ao54 t375.length co54 : Value).ownBlock) (Kd.R_keptB ((Kd.R_apart' HO394.out (Kd.R_typed HO_372000.out) (by decide))) hkp (fun k_ hk_ hs_ => (hk_.2) hs_)) (fun k_ hk_ => hk_.1.1.2));replace HO_372000:=Aside0.mk (Kd.R_reok rfl hy0 (fun k_ e_ => HO_372000.out.1 k_ e_));replace HB:=Aside0.mk hb;(try clear hb);(try clear hkp);(try clear hy0)) | ((with_reducible refine gate_callee (f:=44) rfl ?_);refine goesL_ (some 89) rfl rfl Try.func44 (by kernel_rfl) rfl #[.slice Ao53 t372.length co53,.int .i64 t396] rfl zM0 ?_;(with_reducible refine (laws_markActS.calls kj25 (fun k_ => some k_ = (.slice Ao53 t372.length co53 : Value).ownBlock) (.slice Ao53 t372.length co53) t372 t396 t398 t399 w _ ?side1 ?side2 A91.out).mono ?_);(case side1 => repeat (first | (with_reducible first | exact HB.out | apply below_alloc | apply pw_below_drewN | apply below_drew1 | refine below_set ?_ GE351.out | refine below_set ?_ GE367.out | refine below_set ?_ GE371.out | refine below_set ?_ GE382.out) | exact HB.out));(case side2 => exact Kd.R_tight rfl HO_13.out);rintro e w108 ⟨rfl,hy0,hb,hkp⟩;refine ⟨_,rfl,?_⟩;replace HO_14:=Aside0.mk (Kd.R_mono (ok':=fun k_ => some k_ ≠ (.slice Ao102 t392.length co102 : Value).ownBlock) (Kd.R_keptB ((Kd.R_apart' HO_14.out (Kd.R_typed HO_13.out) (by decide))) hkp (fun k_ hk_ hs_ => (hk_.2) hs_)) (fun k_ hk_ => hk_.1.1));replace HO_368000:=Aside0.mk (Kd.R_mono (ok':=fun k_ => some k_ ≠ (.slice Ao46 t368.length co46 : Value).ownBlock ∧ some k_ ≠ (.slice Ao57 t378.length co57 : Value).ownBlock ∧ some k_ ≠ (.slice Ao96 t384.length co96 : Value).ownBlock) (Kd.R_keptB ((Kd.R_apart' HO_368000.out (Kd.R_typed HO_13.out) (by decide))) hkp (fun k_ hk_ hs_ => (hk_.2) hs_)) (fun k_ hk_ => ⟨hk_.1.1.1,hk_.1.1.2.1,hk_.1.1.2.2⟩));replace HO_372000:=Aside0.mk (Kd.R_mono (ok':=fun k_ => some k_ ≠ (.slice Ao40 t363.length co40 : Value).ownBlock ∧ some k_ ≠ (.slice Ao57 t378.length co57 : Value).ownBlock ∧ some k_ ≠ (.slice Ao96 t384.length co96 : Value).ownBlock) (Kd.R_keptB ((Kd.R_apart' HO_372000.out (Kd.R_typed HO_13.out) (by decide))) hkp (fun k_ hk_ hs_ => (hk_.2) hs_)) (fun k_ hk_ => ⟨hk_.1.1.1.1,hk_.1.1.1.2,hk_.1.1.2⟩));replace HO_383000:=Aside0.mk (Kd.R_mono (ok':=fun k_ => some k_ ≠ (.slice Ao40 t363.length co40 : Value).ownBlock ∧ some k_ ≠ (.slice Ao46 t368.length co46 : Value).ownBlock ∧ some k_ ≠ (.slice Ao96 t384.length co96 : Value).ownBlock) (Kd.R_keptB ((Kd.R_apart' HO_383000.out (Kd.R_typed HO_13.out) (by decide))) hkp (fun k_ hk_ hs_ => (hk_.2) hs_)) (fun k_ hk_ => ⟨hk_.1.1.1,hk_.1.1.2.1,hk_.1.1.2.2⟩));replace BK351:=Aside0.mk (blk_kept (zK0 BK351.out) hkp (fun hs_ => (fun e_ => (Kd.R_ne HO_13.out BK351.out (by decide)) e_) hs_));replace BK367:=Aside0.mk (blk_kept (zK0 BK367.out) hkp (fun hs_ => (fun e_ => (Kd.R_ne HO_13.out BK367.out (by decide)) e_) hs_));replace BK371:=Aside0.mk (blk_kept (zK0 BK371.out) hkp (fun hs_ => (fun e_ => (Kd.R_ne HO_13.out BK371.out (by decide)) e_) hs_));replace BK382:=Aside0.mk (blk_kept (zK0 BK382.out) hkp (fun hs_ => (fun e_ => (Kd.R_ne HO_13.out BK382.out (by decide)) e_) hs_));replace HO386:=Aside0.mk (Kd.R_mono (ok':=fun k_ => some k_ ≠ (.slice Ao40 t363.length co40 : Value).ownBlock ∧ some k_ ≠ (.slice Ao46 t368.length co46 : Value).ownBlock ∧ some k_ ≠ (.slice Ao57 t378.length co57 : Value).ownBlock) (Kd.R_keptB ((Kd.R_apart' HO386.out (Kd.R_typed HO_13.out) (by decide))) hkp (fun k_ hk_ hs_ => (hk_.2) hs_)) (fun k_ hk_ => ⟨hk_.1.1.1,hk_.1.1.2.1,hk_.1.1.2.2⟩));replace HO390:=Aside0.mk (Kd.R_mono (ok':=fun k_ => some k_ ≠ (.slice Ao53 t372.length co53 : Value).ownBlock) (Kd.R_keptB (HO390.out) hkp (fun k_ hk_ hs_ => (hk_) hs_)) (fun k_ hk_ => hk_.1));replace HO394:=Aside0.mk (Kd.R_mono (ok':=fun k_ => some k_ ≠ (.slice Ao54 t375.length co54 : Value).ownBlock) (Kd.R_keptB ((Kd.R_apart' HO394.out (Kd.R_typed HO_13.out) (by decide))) hkp (fun k_ hk_ hs_ => (hk_.2) hs_)) (fun k_ hk_ => hk_.1.1));replace HO_13:=Aside0.mk (Kd.R_reok rfl hy0 (fun k_ e_ => HO_13.out.1 k_ e_));replace HB:=Aside0.mk hb;(try clear hb);(try clear hkp);(try clear hy0)) | ((with_reducible refine gate_callee (f:=33) rfl ?_);refine goesL_ (some 92) rfl rfl Try.func33 (by kernel_rfl) rfl #[.slice Ao54 t375.length co54,.int .i64 t398] rfl zM0 ?_;(with_reducible refine (laws_markIntS.calls kj25 (fun k_ => some k_ = (.slice Ao54 t375.length co54 : Value).ownBlock) (.slice Ao54 t375.length co54) t375 t398 t400 t401 w _ ?side1 ?side2 A92.out).mono ?_);(case side1 => repeat (first | (with_reducible first | exact HB.out | apply below_alloc | apply pw_below_drewN | apply below_drew1 | refine below_set ?_ GE351.out | refine below_set ?_ GE367.out | refine below_set ?_ GE371.out | refine below_set ?_ GE382.out) | exact HB.out));(case side2 => exact Kd.R_tight rfl HO_14.out);rintro e w109 ⟨rfl,hy0,hb,hkp⟩;refine ⟨_,rfl,?_⟩;replace HO_13:=Aside0.mk (Kd.R_mono (ok':=fun k_ => some k_ ≠ (.slice Ao99 t388.length co99 : Value).ownBlock) (Kd.R_keptB ((Kd.R_apart' HO_13.out (Kd.R_typed HO_14.out) (by decide))) hkp (fun k_ hk_ hs_ => (hk_.2) hs_)) (fun k_ hk_ => hk_.1.1));replace HO_368000:=Aside0.mk (Kd.R_mono (ok':=fun k_ => some k_ ≠ (.slice Ao46 t368.length co46 : Value).ownBlock ∧ some k_ ≠ (.slice Ao57 t378.length co57 : Value).ownBlock ∧ some k_ ≠ (.slice Ao96 t384.length co96 : Value).ownBlock) (Kd.R_keptB ((Kd.R_apart' HO_368000.out (Kd.R_typed HO_14.out) (by decide))) hkp (fun k_ hk_ hs_ => (hk_.2) hs_)) (fun k_ hk_ => ⟨hk_.1.1.1,hk_.1.1.2.1,hk_.1.1.2.2⟩));replace HO_372000:=Aside0.mk (Kd.R_mono (ok':=fun k_ => some k_ ≠ (.slice Ao40 t363.length co40 : Value).ownBlock ∧ some k_ ≠ (.slice Ao57 t378.length co57 : Value).ownBlock ∧ some k_ ≠ (.slice Ao96 t384.length co96 : Value).ownBlock) (Kd.R_keptB ((Kd.R_apart' HO_372000.out (Kd.R_typed HO_14.out) (by decide))) hkp (fun k_ hk_ hs_ => (hk_.2) hs_)) (fun k_ hk_ => ⟨hk_.1.1.1,hk_.1.1.2.1,hk_.1.1.2.2⟩));replace HO_383000:=Aside0.mk (Kd.R_mono (ok':=fun k_ => some k_ ≠ (.slice Ao40 t363.length co40 : Value).ownBlock ∧ some k_ ≠ (.slice Ao46 t368.length co46 : Value).ownBlock ∧ some k_ ≠ (.slice Ao96 t384.length co96 : Value).ownBlock) (Kd.R_keptB ((Kd.R_apart' HO_383000.out (Kd.R_typed HO_14.out) (by decide))) hkp (fun k_ hk_ hs_ => (hk_.2) hs_)) (fun k_ hk_ => ⟨hk_.1.1.1,hk_.1.1.2.1,hk_.1.1.2.2⟩));replace BK351:=Aside0.mk (blk_kept (zK0 BK351.out) hkp (fun hs_ => (fun e_ => (Kd.R_ne HO_14.out BK351.out (by decide)) e_) hs_));replace BK367:=Aside0.mk (blk_kept (zK0 BK367.out) hkp (fun hs_ => (fun e_ => (Kd.R_ne HO_14.out BK367.out (by decide)) e_) hs_));replace BK371:=Aside0.mk (blk_kept (zK0 BK371.out) hkp (fun hs_ => (fun e_ => (Kd.R_ne HO_14.out BK371.out (by decide)) e_) hs_));replace BK382:=Aside0.mk (blk_kept (zK0 BK382.out) hkp (fun hs_ => (fun e_ => (Kd.R_ne HO_14.out BK382.out (by decide)) e_) hs_));replace HO386:=Aside0.mk (Kd.R_mono (ok':=fun k_ => some k_ ≠ (.slice Ao40 t363.length co40 : Value).ownBlock ∧ some k_ ≠ (.slice Ao46 t368.length co46 : Value).ownBlock ∧ some k_ ≠ (.slice Ao57 t378.length co57 : Value).ownBlock) (Kd.R_keptB ((Kd.R_apart' HO386.out (Kd.R_typed HO_14.out) (by decide))) hkp (fun k_ hk_ hs_ => (hk_.2) hs_)) (fun k_ hk_ => ⟨hk_.1.1.1,hk_.1.1.2.1,hk_.1.1.2.2⟩));replace HO390:=Aside0.mk (Kd.R_mono (ok':=fun k_ => some k_ ≠ (.slice Ao53 t372.length co53 : Value).ownBlock) (Kd.R_keptB ((Kd.R_apart' HO390.out (Kd.R_typed HO_14.out) (by decide))) hkp (fun k_ hk_ hs_ => (hk_.2) hs_)) (fun k_ hk_ => hk_.1.1));replace HO_14:=Aside0.mk (Kd.R_reok rfl hy0 (fun k_ e_ => HO_14.out.1 k_ e_));replace HO394:=Aside0.mk (Kd.R_mono (ok':=fun k_ => some k_ ≠ (.slice Ao54 t375.length co54 : Value).ownBlock) (Kd.R_keptB (HO394.out) hkp (fun k_ hk_ hs_ => (hk_) hs_)) (fun k_ hk_ => hk_.1));replace HB:=Aside0.mk hb;(try clear hb);(try clear hkp);(try clear hy0)))
          (try simp only [Act.put,qA0,qB0,qC0])
          go_cut [105] (fun v105 wc => ∃ (kq : Nat) (x105_92 : Bool),v105 = .bool x105_92 ∧ Aside0 (laws_FnExactCutActs.j1 kq l1 a2 l3 t366 x105_92 l0_0 t363 t378 = some r) ∧ Aside0 (kq ≤ kj25) ∧ Aside0 (Kd.R k45 45 wc w.heap.size (fun k_ => some k_ ≠ ((.slice Ao46 t368.length co46) : Value).ownBlock ∧ some k_ ≠ ((.slice Ao57 t378.length co57) : Value).ownBlock) (.slice Ao40 t363.length co40) t363) ∧ Aside0 (Kd.R k45 45 wc w.heap.size (fun k_ => some k_ ≠ ((.slice Ao40 t363.length co40) : Value).ownBlock ∧ some k_ ≠ ((.slice Ao57 t378.length co57) : Value).ownBlock) (.slice Ao46 t368.length co46) t397) ∧ Aside0 (Kd.R k45 45 wc w.heap.size (fun k_ => some k_ ≠ ((.slice Ao40 t363.length co40) : Value).ownBlock ∧ some k_ ≠ ((.slice Ao46 t368.length co46) : Value).ownBlock) (.slice Ao57 t378.length co57) t378) ∧ Aside0 (wc.heap[gb351]? = some (.cells #[(.slice A0_0 l0_0.length c0_0)] 24 (0,0))) ∧ Aside0 (wc.heap[gb367]? = some (.cells #[(.slice Ao40 t363.length co40)] 30 (0,0))) ∧ Aside0 (wc.heap[gb371]? = some (.cells #[(.slice Ao46 t368.length co46)] 30 (0,0))) ∧ Aside0 (wc.heap[gb382]? = some (.cells #[(.slice Ao57 t378.length co57)] 30 (0,0))) ∧ Aside0 (Below w.heap.size w wc))
          case first =>
           have H:=HC93.out
           clear HC93
           by_cases c110 : t400 < 0
           ·rw [if_pos c110] at H
            exact absurd (H.trans (congrArg some hrt)) (by first | simp | (cases kj25 <;> simp [laws_FnExactCutActs.j0,laws_FnExactCutActs.j1,laws_FnExactCutActs.j2]) | (cases k <;> simp [laws_FnExactCutActs.j0,laws_FnExactCutActs.j1,laws_FnExactCutActs.j2]))
           ·rw [if_neg c110] at H
            have c110b0 : decide (t400 < 0) = false:=decide_eq_false c110
            clear c110
            (first | rw [c110b0] | (simp only [i64_w,i32_w];rw [c110b0]) | skip)
            replace H:=Option.bind_eq_some_iff.mp H
            obtain ⟨t402,A1110,H⟩:=H
            replace H : (if t402 = true then (laws_FnExactCutActs.j1 kj25 l1 a2 l3 t366 (t381 != t366) l0_0 t363 t378) else (laws_FnExactCutActs.j1 kj25 l1 a2 l3 t366 true l0_0 t363 t378)) = some r:=H
            have A111:=Aside0.mk A1110
            clear A1110
            by_cases c112 : t402 = true
            ·subst c112
             have H1 : (laws_FnExactCutActs.j1 kj25 l1 a2 l3 t366 (t381 != t366) l0_0 t363 t378) = some r:=by rw [if_pos rfl] at H;exact H
             clear H
             have H:=H1
             clear H1
             have H':=Aside0.mk H
             clear H
             obtain ⟨_,_⟩:=zn0 NB382_351
             obtain ⟨_,_⟩:=zn0 NB382_367
             obtain ⟨_,_⟩:=zn0 NB382_371
             have hcz116_0:=zc00 BK382
             have hfz116_0:=blk_frozen BK382.out 0
             obtain ⟨_,_⟩:=zn0 NB367_351
             obtain ⟨_,_⟩:=zn0 NB367_371
             have hcz119_0:=zc00 BK367
             have hfz119_0:=blk_frozen BK367.out 0
             go_wp2_with (first | (go_at_call 18;(with_reducible refine (laws_eqDisk.calls kj25 _ _ t378 _ _ t363 true _ ?side1 ?side2 ?side3 ?side4 A111.out).mono ?_);(case side1 => exact zA0 ((Kd.R_reads' HO_383000.out).2.2));(case side2 => exact (Kd.R_reads' HO_383000.out).2.1);(case side3 => exact zA0 ((Kd.R_reads' HO_368000.out).2.2));(case side4 => exact (Kd.R_reads' HO_368000.out).2.1);rintro e w120 ⟨rfl,hb⟩;replace HO_13:=Aside0.mk (Kd.R_below (zR0 HO_13.out) hb);replace HO_14:=Aside0.mk (Kd.R_below (zR0 HO_14.out) hb);replace HO_368000:=Aside0.mk (Kd.R_below (zR0 HO_368000.out) hb);replace HO_372000:=Aside0.mk (Kd.R_below (zR0 HO_372000.out) hb);replace HO_383000:=Aside0.mk (Kd.R_below (zR0 HO_383000.out) hb);replace HO386:=Aside0.mk (Kd.R_below (zR0 HO386.out) hb);replace HO390:=Aside0.mk (Kd.R_below (zR0 HO390.out) hb);replace HO394:=Aside0.mk (Kd.R_below (zR0 HO394.out) hb);replace BK351:=zb0 BK351 hb;replace BK367:=zb0 BK367 hb;replace BK371:=zb0 BK371 hb;replace BK382:=zb0 BK382 hb;replace HB:=zs0 HB hb;(try clear hb)))
             go_meet
             case rel => exact ⟨_,((t381 != t366)),zE0,H',⟨by have:=HJ25.out;first | omega | exact Nat.le_refl _⟩,⟨by refine zV0 ?_;exact Kd.R_mono HO_368000.out (fun _ hk => ⟨hk.1,hk.2.1⟩)⟩,⟨by refine zV0 ?_;exact Kd.R_mono HO_372000.out (fun _ hk => ⟨hk.1,hk.2.1⟩)⟩,⟨by refine zV0 ?_;exact Kd.R_mono HO_383000.out (fun _ hk => ⟨hk.1,hk.2.1⟩)⟩,⟨zK0 BK351.out⟩,⟨zK0 BK367.out⟩,⟨zK0 BK371.out⟩,⟨zK0 BK382.out⟩,⟨zY0 HB.out⟩⟩
            ·replace c112:=Bool.eq_false_iff.mpr c112
             subst c112
             have H1 : (laws_FnExactCutActs.j1 kj25 l1 a2 l3 t366 true l0_0 t363 t378) = some r:=by rw [if_neg (show ¬ (false = true) by decide)] at H;exact H
             exact absurd (H1.trans (congrArg some hrt)) (by first | simp | (cases kj25 <;> simp [laws_FnExactCutActs.j0,laws_FnExactCutActs.j1,laws_FnExactCutActs.j2]) | (cases k <;> simp [laws_FnExactCutActs.j0,laws_FnExactCutActs.j1,laws_FnExactCutActs.j2]))
          case rest =>
           clear HC93
           try clear c5
           try clear c5b0
           try clear c5b1
           try clear c8
           try clear c8b0
           try clear c13
           try clear c13b0
           try clear c80
           try clear c83
           try clear c86
           try clear c89
           try clear hcz106_0
           try clear hcz124_0
           try clear hcz127_0
           try clear hcz28_0
           try clear hcz31_0
           try clear hcz42_0
           try clear hcz43_0
           try clear hcz49_0
           try clear hcz52_0
           try clear hcz61_0
           try clear hcz75_0
           try clear hcz78_0
           try clear hfz106_0
           try clear hfz124_0
           try clear hfz127_0
           try clear hfz28_0
           try clear hfz31_0
           try clear hfz42_0
           try clear hfz43_0
           try clear hfz49_0
           try clear hfz52_0
           try clear hfz61_0
           try clear hfz75_0
           try clear hfz78_0
           obtain ⟨kq,x105_92,rfl,HA,HJ92,HO_368000,HO_372000,HO_383000,BK351,BK367,BK371,BK382,HB⟩:=hcut
           have hl372000_92:=(Kd.R_reads' HO_372000.out).1
           rw [hl372000_92] at HO_372000
           (try simp only [hl372000_92])
           (try simp only [hl372000_92] at BK351)
           (try simp only [hl372000_92] at BK367)
           (try simp only [hl372000_92] at BK371)
           (try simp only [hl372000_92] at BK382)
           (try simp only [hl372000_92] at HO_368000)
           (try simp only [hl372000_92] at HO_383000)
           cases kq with
           | zero => exact absurd HA.out (by simp [laws_FnExactCutActs.j1])
           | succ kj92 =>
            have H:=HA.out
            clear HA
            simp only [laws_FnExactCutActs.j1] at H
            by_cases c129 : x105_92 = true
            ·subst c129
             have H1 : (some false) = some r:=by rw [if_pos rfl] at H;exact H
             exact absurd (H1.trans (congrArg some hrt)) (by first | simp | (cases kj92 <;> simp [laws_FnExactCutActs.j0,laws_FnExactCutActs.j1,laws_FnExactCutActs.j2]) | (cases kj25 <;> simp [laws_FnExactCutActs.j0,laws_FnExactCutActs.j1,laws_FnExactCutActs.j2]) | (cases k <;> simp [laws_FnExactCutActs.j0,laws_FnExactCutActs.j1,laws_FnExactCutActs.j2]))
            ·replace c129:=Bool.eq_false_iff.mpr c129
             subst c129
             have H1 : ((laws_markDisk.f kj92 t378 1).bind fun bt403 => ((laws_heldDisk.f kj92 bt403.2 1).bind fun t405 => (if t405 < 0 then (some false) else (if t405 = bt403.1 then ((laws_toDisk.f kj92 l0_0).bind fun t406 => ((laws_toActS.f kj92 l1).bind fun t409 => ((laws_toIntS.f kj92 l3).bind fun t412 => ((impl_CutActs.f kj92 t406 t409 a2 t412).bind fun bt415 => ((laws_eqDisk.f kj92 bt415.1 t363).bind fun t420 => (if t420 = true then (laws_FnExactCutActs.j2 kj92 bt403.1 (bt415.2 != t366) bt403.2) else (laws_FnExactCutActs.j2 kj92 bt403.1 true bt403.2))))))) else (some false))))) = some r:=by rw [if_neg (show ¬ (false = true) by decide)] at H;exact H
             clear H
             have H:=H1
             clear H1
             replace H:=Option.bind_eq_some_iff.mp H
             obtain ⟨⟨t403,t404⟩,A1300,H⟩:=H
             replace H : ((laws_heldDisk.f kj92 t404 1).bind fun t405 => (if t405 < 0 then (some false) else (if t405 = t403 then ((laws_toDisk.f kj92 l0_0).bind fun t406 => ((laws_toActS.f kj92 l1).bind fun t409 => ((laws_toIntS.f kj92 l3).bind fun t412 => ((impl_CutActs.f kj92 t406 t409 a2 t412).bind fun bt415 => ((laws_eqDisk.f kj92 bt415.1 t363).bind fun t420 => (if t420 = true then (laws_FnExactCutActs.j2 kj92 t403 (bt415.2 != t366) t404) else (laws_FnExactCutActs.j2 kj92 t403 true t404))))))) else (some false)))) = some r:=H
             have A130:=Aside0.mk A1300
             clear A1300
             replace H:=Option.bind_eq_some_iff.mp H
             obtain ⟨t405,A1310,H⟩:=H
             replace H : (if t405 < 0 then (some false) else (if t405 = t403 then ((laws_toDisk.f kj92 l0_0).bind fun t406 => ((laws_toActS.f kj92 l1).bind fun t409 => ((laws_toIntS.f kj92 l3).bind fun t412 => ((impl_CutActs.f kj92 t406 t409 a2 t412).bind fun bt415 => ((laws_eqDisk.f kj92 bt415.1 t363).bind fun t420 => (if t420 = true then (laws_FnExactCutActs.j2 kj92 t403 (bt415.2 != t366) t404) else (laws_FnExactCutActs.j2 kj92 t403 true t404))))))) else (some false))) = some r:=H
             have A131:=Aside0.mk A1310
             clear A1310
             by_cases c132 : t405 < 0
             ·rw [if_pos c132] at H
              exact absurd (H.trans (congrArg some hrt)) (by first | simp | (cases kj92 <;> simp [laws_FnExactCutActs.j0,laws_FnExactCutActs.j1,laws_FnExactCutActs.j2]) | (cases kj25 <;> simp [laws_FnExactCutActs.j0,laws_FnExactCutActs.j1,laws_FnExactCutActs.j2]) | (cases k <;> simp [laws_FnExactCutActs.j0,laws_FnExactCutActs.j1,laws_FnExactCutActs.j2]))
             ·rw [if_neg c132] at H
              have c132b0 : decide (t405 < 0) = false:=decide_eq_false c132
              clear c132
              by_cases c140 : t405 = t403
              ·rw [if_pos c140] at H
               have c140b0 : (t405 == t403) = true:=beq_iff_eq.mpr c140
               have c140b1 : (t405 != t403) = false:=bne_eq_false_iff_eq.mpr c140
               clear c140
               replace H:=Option.bind_eq_some_iff.mp H
               obtain ⟨t406,A1410,H⟩:=H
               replace H : ((laws_toActS.f kj92 l1).bind fun t409 => ((laws_toIntS.f kj92 l3).bind fun t412 => ((impl_CutActs.f kj92 t406 t409 a2 t412).bind fun bt415 => ((laws_eqDisk.f kj92 bt415.1 t363).bind fun t420 => (if t420 = true then (laws_FnExactCutActs.j2 kj92 t403 (bt415.2 != t366) t404) else (laws_FnExactCutActs.j2 kj92 t403 true t404)))))) = some r:=H
               have A141:=Aside0.mk A1410
               clear A1410
               replace H:=Option.bind_eq_some_iff.mp H
               obtain ⟨t409,A1420,H⟩:=H
               replace H : ((laws_toIntS.f kj92 l3).bind fun t412 => ((impl_CutActs.f kj92 t406 t409 a2 t412).bind fun bt415 => ((laws_eqDisk.f kj92 bt415.1 t363).bind fun t420 => (if t420 = true then (laws_FnExactCutActs.j2 kj92 t403 (bt415.2 != t366) t404) else (laws_FnExactCutActs.j2 kj92 t403 true t404))))) = some r:=H
               have A142:=Aside0.mk A1420
               clear A1420
               replace H:=Option.bind_eq_some_iff.mp H
               obtain ⟨t412,A1430,H⟩:=H
               replace H : ((impl_CutActs.f kj92 t406 t409 a2 t412).bind fun bt415 => ((laws_eqDisk.f kj92 bt415.1 t363).bind fun t420 => (if t420 = true then (laws_FnExactCutActs.j2 kj92 t403 (bt415.2 != t366) t404) else (laws_FnExactCutActs.j2 kj92 t403 true t404)))) = some r:=H
               have A143:=Aside0.mk A1430
               clear A1430
               replace H:=Option.bind_eq_some_iff.mp H
               obtain ⟨⟨t415,t418⟩,A1440,H⟩:=H
               replace H : ((laws_eqDisk.f kj92 t415 t363).bind fun t420 => (if t420 = true then (laws_FnExactCutActs.j2 kj92 t403 (t418 != t366) t404) else (laws_FnExactCutActs.j2 kj92 t403 true t404))) = some r:=H
               have A144:=Aside0.mk A1440
               clear A1440
               have HC145:=Aside0.mk H
               clear H
               obtain ⟨_,_⟩:=zn0 NB382_351
               obtain ⟨_,_⟩:=zn0 NB382_367
               obtain ⟨_,_⟩:=zn0 NB382_371
               have hcz149_0 : wc.cell? ⟨gb382,0,none⟩ = some (.slice Ao57 t378.length co57):=(blk_cell BK382.out 0).trans rfl
               have hfz149_0:=blk_frozen BK382.out 0
               go_upto_region 38 with (first | ((with_reducible refine gate_callee (f:=32) rfl ?_);refine goesL_ (some 108) rfl rfl Try.func32 (by kernel_rfl) rfl #[.agg #[.slice Ao57 t378.length co57],.int .i64 1] rfl zM0 ?_;(with_reducible refine (laws_markDisk.calls kj92 (fun k_ => some k_ = (.slice Ao57 t378.length co57 : Value).ownBlock) (.slice Ao57 t378.length co57) t378 1 t403 t404 w _ ?side1 ?side2 A130.out).mono ?_);(case side1 => repeat (first | (with_reducible first | exact HB.out | apply below_alloc | apply pw_below_drewN | apply below_drew1 | refine below_set ?_ GE351.out | refine below_set ?_ GE367.out | refine below_set ?_ GE371.out | refine below_set ?_ GE382.out) | exact HB.out));(case side2 => exact Kd.R_tight rfl HO_383000.out);rintro e w150 ⟨rfl,hy0,hb,hkp⟩;refine ⟨_,rfl,?_⟩;replace HO_368000:=Aside0.mk (Kd.R_mono (ok':=fun k_ => some k_ ≠ (.slice Ao46 t397.length co46 : Value).ownBlock ∧ some k_ ≠ (.slice Ao57 t378.length co57 : Value).ownBlock) (Kd.R_keptB (HO_368000.out) hkp (fun k_ hk_ hs_ => (hk_.2) hs_)) (fun k_ hk_ => ⟨hk_.1.1,hk_.1.2⟩));replace HO_372000:=Aside0.mk (Kd.R_mono (ok':=fun k_ => some k_ ≠ (.slice Ao40 t363.length co40 : Value).ownBlock ∧ some k_ ≠ (.slice Ao57 t378.length co57 : Value).ownBlock) (Kd.R_keptB (HO_372000.out) hkp (fun k_ hk_ hs_ => (hk_.2) hs_)) (fun k_ hk_ => ⟨hk_.1.1,hk_.1.2⟩));replace BK351:=Aside0.mk (blk_kept (zK0 BK351.out) hkp (fun hs_ => (fun e_ => (Kd.R_ne HO_383000.out BK351.out (by decide)) e_) hs_));replace BK367:=Aside0.mk (blk_kept (zK0 BK367.out) hkp (fun hs_ => (fun e_ => (Kd.R_ne HO_383000.out BK367.out (by decide)) e_) hs_));replace BK371:=Aside0.mk (blk_kept (zK0 BK371.out) hkp (fun hs_ => (fun e_ => (Kd.R_ne HO_383000.out BK371.out (by decide)) e_) hs_));replace BK382:=Aside0.mk (blk_kept (zK0 BK382.out) hkp (fun hs_ => (fun e_ => (Kd.R_ne HO_383000.out BK382.out (by decide)) e_) hs_));replace HO_383000:=Aside0.mk (Kd.R_reok rfl hy0 (fun k_ e_ => HO_383000.out.1 k_ e_));replace HB:=Aside0.mk hb;(try clear hb);(try clear hkp);(try clear hy0);have hcz151_0:=zc00 BK382;have hfz151_0:=blk_frozen BK382.out 0) | ((with_reducible refine gate_callee (f:=34) rfl ?_);refine goesL_ (some 111) rfl rfl Try.func34 (by kernel_rfl) rfl #[.agg #[.slice Ao57 t404.length co57],.int .i64 1] rfl (by (try simp only [List.map_toArray,List.map_cons,List.map_nil]);first | done | (rw [show t404.length = t378.length from (Kd.R_reads' HO_383000.out).1.symm] <;> rfl) | rfl | (simp only [List.length_drop,List.length_take];rfl)) ?_;(with_reducible refine (laws_heldDisk.calls kj92 _ _ t404 1 t405 _ ?side1 ?side2 A131.out).mono ?_);(case side1 => exact zA0 ((Kd.R_reads' HO_383000.out).2.2));(case side2 => rw [show t404.length = t378.length from (Kd.R_reads' HO_383000.out).1.symm];exact (Kd.R_reads' HO_383000.out).2.1);rintro e w152 ⟨rfl,hb⟩;refine ⟨_,rfl,?_⟩;replace HO_368000:=Aside0.mk (Kd.R_below (zR0 HO_368000.out) hb);replace HO_372000:=Aside0.mk (Kd.R_below (zR0 HO_372000.out) hb);replace HO_383000:=Aside0.mk (Kd.R_below (zR0 HO_383000.out) hb);replace BK351:=zb0 BK351 hb;replace BK367:=zb0 BK367 hb;replace BK371:=zb0 BK371 hb;replace BK382:=zb0 BK382 hb;replace HB:=zs0 HB hb;(try clear hb);obtain ⟨_,_⟩:=zn0 NB351_367;obtain ⟨_,_⟩:=zn0 NB351_371;have hcz155_0:=zc00 BK351;have hfz155_0:=blk_frozen BK351.out 0) | ((with_reducible refine gate_callee (f:=16) rfl ?_);refine goesL_ (some 119) rfl rfl Try.func16 (by kernel_rfl) rfl #[.agg #[.slice A0_0 l0_0.length c0_0]] rfl zM0 ?_;(with_reducible refine (laws_toDisk.calls kj92 _ _ l0_0 t406 _ ?side1 ?side2 A141.out).mono ?_);(case side1 => exact zA0 ((Kd.C_below HR0_0.out HB.out)));(case side2 => exact HC0_0.out);rintro e w156 ⟨v407,rfl,ho0,hb⟩;refine ⟨_,rfl,?_⟩;have HO408:=Aside0.mk (Kd.R_lower (Kd.R_new' (Kd.R_new' (Kd.R_new' ho0 (Kd.R_lt (zR0 HO_368000.out))) (Kd.R_lt (zR0 HO_372000.out))) (Kd.R_lt (zR0 HO_383000.out))) (zZ0 HB.out));replace HO_368000:=Aside0.mk (Kd.R_elder' (zR0 HO_368000.out) (Kd.R_base ho0) hb);replace HO_372000:=Aside0.mk (Kd.R_elder' (zR0 HO_372000.out) (Kd.R_base ho0) hb);replace HO_383000:=Aside0.mk (Kd.R_elder' (zR0 HO_383000.out) (Kd.R_base ho0) hb);replace BK351:=zb0 BK351 hb;replace BK367:=zb0 BK367 hb;replace BK371:=zb0 BK371 hb;replace BK382:=zb0 BK382 hb;replace HB:=zs0 HB hb;(try clear hb);(try clear ho0)) | ((with_reducible refine gate_callee (f:=41) rfl ?_);refine goesL_ (some 121) rfl rfl Try.func41 (by kernel_rfl) rfl #[.slice A1 l1.length c1] rfl zM0 ?_;(with_reducible refine (laws_toActS.calls kj92 _ _ l1 t409 _ ?side1 ?side2 A142.out).mono ?_);(case side1 => exact zA0 ((Kd.C_below HR1.out HB.out)));(case side2 => exact HC1.out);rintro e w157 ⟨v410,rfl,ho0,hb⟩;refine ⟨_,rfl,?_⟩;replace HO_368000:=Aside0.mk (Kd.R_below (zR0 HO_368000.out) hb);replace HO_372000:=Aside0.mk (Kd.R_below (zR0 HO_372000.out) hb);replace HO_383000:=Aside0.mk (Kd.R_below (zR0 HO_383000.out) hb);replace HO408:=Aside0.mk (Kd.R_below (zR0 HO408.out) hb);have HO411:=Aside0.mk (Kd.R_lower ho0 (zZ0 HB.out));replace BK351:=zb0 BK351 hb;replace BK367:=zb0 BK367 hb;replace BK371:=zb0 BK371 hb;replace BK382:=zb0 BK382 hb;replace HB:=zs0 HB hb;(try clear hb);(try clear ho0)) | ((with_reducible refine gate_callee (f:=30) rfl ?_);refine goesL_ (some 124) rfl rfl Try.func30 (by kernel_rfl) rfl #[.slice A3 l3.length c3] rfl zM0 ?_;(with_reducible refine (laws_toIntS.calls kj92 _ _ l3 t412 _ ?side1 ?side2 A143.out).mono ?_);(case side1 => exact zA0 ((Kd.C_below HR3.out HB.out)));(case side2 => exact HC3.out);rintro e w158 ⟨v413,rfl,ho0,hb⟩;refine ⟨_,rfl,?_⟩;replace HO_368000:=Aside0.mk (Kd.R_below (zR0 HO_368000.out) hb);replace HO_372000:=Aside0.mk (Kd.R_below (zR0 HO_372000.out) hb);replace HO_383000:=Aside0.mk (Kd.R_below (zR0 HO_383000.out) hb);replace HO408:=Aside0.mk (Kd.R_below (zR0 HO408.out) hb);replace HO411:=Aside0.mk (Kd.R_below (zR0 HO411.out) hb);have HO414:=Aside0.mk (Kd.R_lower ho0 (zZ0 HB.out));replace BK351:=zb0 BK351 hb;replace BK367:=zb0 BK367 hb;replace BK371:=zb0 BK371 hb;replace BK382:=zb0 BK382 hb;replace HB:=zs0 HB hb;(try clear hb);(try clear ho0);obtain ⟨Ao159,co159,eo159⟩:=Kd.R_slice HO408.out;subst eo159;obtain ⟨Ao160,co160,eo160⟩:=Kd.R_slice HO411.out;subst eo160;obtain ⟨Ao161,co161,eo161⟩:=Kd.R_slice HO414.out;subst eo161) | ((with_reducible refine gate_callee (f:=46) rfl ?_);refine goesL_ (some 125) rfl rfl Try.func46 (by kernel_rfl) rfl #[.agg #[.slice Ao159 t406.length co159],.slice Ao160 t409.length co160,.int .i64 a2,.slice Ao161 t412.length co161] rfl zM0 ?_;(with_reducible refine (impl_CutActs.calls kj92 _ _ t406 _ _ t409 a2 _ _ t412 t415 t418 _ ?side1 ?side2 ?side3 ?side4 ?side5 ?side6 A144.out).mono ?_);(case side1 => exact zA0 ((Kd.R_reads' HO408.out).2.2));(case side2 => exact (Kd.R_reads' HO408.out).2.1);(case side3 => exact zA0 ((Kd.R_reads' HO411.out).2.2));(case side4 => exact (Kd.R_reads' HO411.out).2.1);(case side5 => exact zA0 ((Kd.R_reads' HO414.out).2.2));(case side6 => exact (Kd.R_reads' HO414.out).2.1);rintro e w162 ⟨v416,rfl,ho0,hb⟩;refine ⟨_,rfl,?_⟩;replace HO411:=Aside0.mk (Kd.R_below (zR0 HO411.out) hb);replace HO414:=Aside0.mk (Kd.R_below (zR0 HO414.out) hb);have HO417:=Aside0.mk (Kd.R_lower (Kd.R_new' (Kd.R_new' (Kd.R_new' (Kd.R_new' ho0 (Kd.R_lt (zR0 HO_368000.out))) (Kd.R_lt (zR0 HO_372000.out))) (Kd.R_lt (zR0 HO_383000.out))) (Kd.R_lt (zR0 HO408.out))) (zZ0 HB.out));replace HO_368000:=Aside0.mk (Kd.R_elder' (zR0 HO_368000.out) (Kd.R_base ho0) hb);replace HO_372000:=Aside0.mk (Kd.R_elder' (zR0 HO_372000.out) (Kd.R_base ho0) hb);replace HO_383000:=Aside0.mk (Kd.R_elder' (zR0 HO_383000.out) (Kd.R_base ho0) hb);replace HO408:=Aside0.mk (Kd.R_elder' (zR0 HO408.out) (Kd.R_base ho0) hb);replace BK351:=zb0 BK351 hb;replace BK367:=zb0 BK367 hb;replace BK371:=zb0 BK371 hb;replace BK382:=zb0 BK382 hb;replace HB:=zs0 HB hb;(try clear hb);(try clear ho0)) | ((with_reducible refine gate_dst (N:=20) rfl ?_);refine box_event ?hg (N:=20) ?hd (cs:=#[.slice none 0 0]) (t:=30) ?hr ?_;(case hd => rfl);(case hg => rfl);(case hr => first | (go_simp;done) | (go_simp;rfl));intro gb419 hg w163 hbox hb;replace HO_368000:=Aside0.mk (Kd.R_below (zR0 HO_368000.out) hb);replace HO_372000:=Aside0.mk (Kd.R_below (zR0 HO_372000.out) hb);replace HO_383000:=Aside0.mk (Kd.R_below (zR0 HO_383000.out) hb);replace HO408:=Aside0.mk (Kd.R_below (zR0 HO408.out) hb);replace HO411:=Aside0.mk (Kd.R_below (zR0 HO411.out) hb);replace HO414:=Aside0.mk (Kd.R_below (zR0 HO414.out) hb);replace HO417:=Aside0.mk (Kd.R_below (zR0 HO417.out) hb);have BK419:=Aside0.mk hbox;have GW419:=zz0 hg HB;have GE419:=zz0 hg HB;replace HB:=zs0 HB hb;have NB351_419:=zl0 hg BK351;have NB419_351:=zg0 hg BK351;replace BK351:=zb0 BK351 hb;have NB367_419:=zl0 hg BK367;have NB419_367:=zg0 hg BK367;replace BK367:=zb0 BK367 hb;have NB371_419:=zl0 hg BK371;have NB419_371:=zg0 hg BK371;replace BK371:=zb0 BK371 hb;have NB382_419:=zl0 hg BK382;have NB419_382:=zg0 hg BK382;replace BK382:=zb0 BK382 hb;clear hb hbox hg;obtain ⟨Ao164,co164,eo164⟩:=Kd.R_slice HO417.out;subst eo164;obtain ⟨_,_⟩:=zn0 NB419_351;obtain ⟨_,_⟩:=zn0 NB419_367;obtain ⟨_,_⟩:=zn0 NB419_371;obtain ⟨_,_⟩:=zn0 NB419_382;have hcz169_0:=zc00 BK419;have hfz169_0:=blk_frozen BK419.out 0))
               (try simp only [Act.put,qA0,qB0,qC0])
               go_cut [136] (fun v136 wc => ∃ (kq : Nat) (x136_144 : Bool),v136 = .bool x136_144 ∧ Aside0 (laws_FnExactCutActs.j2 kq t403 x136_144 t404 = some r) ∧ Aside0 (kq ≤ kj92) ∧ Aside0 (Kd.R k45 45 wc w.heap.size (fun k_ => some k_ ≠ ((.slice Ao46 t397.length co46) : Value).ownBlock ∧ some k_ ≠ ((.slice Ao57 t378.length co57) : Value).ownBlock ∧ some k_ ≠ ((.slice Ao164 t415.length co164) : Value).ownBlock) (.slice Ao40 t363.length co40) t363) ∧ Aside0 (Kd.R k45 45 wc w.heap.size (fun k_ => some k_ ≠ ((.slice Ao40 t363.length co40) : Value).ownBlock ∧ some k_ ≠ ((.slice Ao57 t378.length co57) : Value).ownBlock ∧ some k_ ≠ ((.slice Ao164 t415.length co164) : Value).ownBlock) (.slice Ao46 t397.length co46) t397) ∧ Aside0 (Kd.R k45 45 wc w.heap.size (fun k_ => some k_ ≠ ((.slice Ao40 t363.length co40) : Value).ownBlock ∧ some k_ ≠ ((.slice Ao46 t397.length co46) : Value).ownBlock ∧ some k_ ≠ ((.slice Ao164 t415.length co164) : Value).ownBlock) (.slice Ao57 t378.length co57) t404) ∧ Aside0 (Kd.R k45 45 wc w.heap.size (fun k_ => some k_ ≠ ((.slice Ao40 t363.length co40) : Value).ownBlock ∧ some k_ ≠ ((.slice Ao46 t397.length co46) : Value).ownBlock ∧ some k_ ≠ ((.slice Ao57 t378.length co57) : Value).ownBlock) (.slice Ao164 t415.length co164) t415) ∧ Aside0 (wc.heap[gb351]? = some (.cells #[(.slice A0_0 l0_0.length c0_0)] 24 (0,0))) ∧ Aside0 (wc.heap[gb367]? = some (.cells #[(.slice Ao40 t363.length co40)] 30 (0,0))) ∧ Aside0 (wc.heap[gb371]? = some (.cells #[(.slice Ao46 t397.length co46)] 30 (0,0))) ∧ Aside0 (wc.heap[gb382]? = some (.cells #[(.slice Ao57 t378.length co57)] 30 (0,0))) ∧ Aside0 (wc.heap[gb419]? = some (.cells #[(.slice Ao164 t415.length co164)] 30 (0,0))) ∧ Aside0 (Below w.heap.size w wc))
               case first =>
                have H:=HC145.out
                clear HC145
                replace H:=Option.bind_eq_some_iff.mp H
                obtain ⟨t420,A1700,H⟩:=H
                replace H : (if t420 = true then (laws_FnExactCutActs.j2 kj92 t403 (t418 != t366) t404) else (laws_FnExactCutActs.j2 kj92 t403 true t404)) = some r:=H
                have A170:=Aside0.mk A1700
                clear A1700
                by_cases c171 : t420 = true
                ·subst c171
                 have H1 : (laws_FnExactCutActs.j2 kj92 t403 (t418 != t366) t404) = some r:=by rw [if_pos rfl] at H;exact H
                 clear H
                 have H:=H1
                 clear H1
                 have H':=Aside0.mk H
                 clear H
                 obtain ⟨_,_⟩:=zn0 NB419_351
                 obtain ⟨_,_⟩:=zn0 NB419_367
                 obtain ⟨_,_⟩:=zn0 NB419_371
                 obtain ⟨_,_⟩:=zn0 NB419_382
                 have hcz176_0:=zc00 BK419
                 have hfz176_0:=blk_frozen BK419.out 0
                 obtain ⟨_,_⟩:=zn0 NB367_351
                 obtain ⟨_,_⟩:=zn0 NB367_371
                 obtain ⟨_,_⟩:=zn0 NB367_382
                 have hcz180_0:=zc00 BK367
                 have hfz180_0:=blk_frozen BK367.out 0
                 go_wp2_with (first | ((with_reducible refine gate_callee (f:=18) rfl ?_);refine goesL_ (some 130) rfl rfl Try.func18 (by kernel_rfl) rfl #[.agg #[.slice Ao164 t415.length co164],.agg #[.slice Ao40 t363.length co40]] rfl zM0 ?_;(with_reducible refine (laws_eqDisk.calls kj92 _ _ t415 _ _ t363 true _ ?side1 ?side2 ?side3 ?side4 A170.out).mono ?_);(case side1 => refine (Kd.R_reads' (e:=45) (base:=w.heap.size) (ok:=fun k_ => ((((True ∧ some k_ ≠ (.slice Ao40 t363.length co40 : Value).ownBlock) ∧ some k_ ≠ (.slice Ao46 t397.length co46 : Value).ownBlock) ∧ some k_ ≠ (.slice Ao57 t378.length co57 : Value).ownBlock) ∧ some k_ ≠ (.slice Ao159 t406.length co159 : Value).ownBlock)) (n:=t415.length) (c:=co164) ?_).2.2;exact (by refine zV0 ?_;exact (Kd.R_mono (Kd.R_far (p:=⟨gb419,0,none⟩) (Kd.R_types HO417.out BK419.out (by decide)) (fun _ hk => hk.2) (.slice Ao164 t415.length co164)) (fun _ h_ => h_.1))));(case side2 => exact (Kd.R_reads' HO417.out).2.1);(case side3 => refine (Kd.R_reads' (e:=45) (base:=w.heap.size) (ok:=fun k_ => (((some k_ ≠ (.slice Ao46 t397.length co46 : Value).ownBlock ∧ some k_ ≠ (.slice Ao57 t378.length co57 : Value).ownBlock) ∧ some k_ ≠ (.slice Ao159 t406.length co159 : Value).ownBlock) ∧ some k_ ≠ (.slice Ao164 t415.length co164 : Value).ownBlock)) (n:=t363.length) (c:=co40) ?_).2.2;exact (by refine zV0 ?_;exact (Kd.R_mono (Kd.R_far (p:=⟨gb419,0,none⟩) (Kd.R_types HO_368000.out BK419.out (by decide)) (fun _ hk => hk.2) (.slice Ao164 t415.length co164)) (fun _ h_ => h_.1))));(case side4 => exact (Kd.R_reads' HO_368000.out).2.1);rintro e w181 ⟨rfl,hb⟩;refine ⟨_,rfl,?_⟩;replace HO_368000:=Aside0.mk (Kd.R_below (by refine zV0 ?_;exact (Kd.R_mono (Kd.R_far (p:=⟨gb419,0,none⟩) (Kd.R_types HO_368000.out BK419.out (by decide)) (fun _ hk => hk.2) (.slice Ao164 t415.length co164)) (fun _ h_ => h_.1))) hb);replace HO_372000:=Aside0.mk (Kd.R_below (by refine zV0 ?_;exact (Kd.R_mono (Kd.R_far (p:=⟨gb419,0,none⟩) (Kd.R_types HO_372000.out BK419.out (by decide)) (fun _ hk => hk.2) (.slice Ao164 t415.length co164)) (fun _ h_ => h_.1))) hb);replace HO_383000:=Aside0.mk (Kd.R_below (by refine zV0 ?_;exact (Kd.R_mono (Kd.R_far (p:=⟨gb419,0,none⟩) (Kd.R_types HO_383000.out BK419.out (by decide)) (fun _ hk => hk.2) (.slice Ao164 t415.length co164)) (fun _ h_ => h_.1))) hb);replace HO408:=Aside0.mk (Kd.R_below (by refine zV0 ?_;exact (Kd.R_mono (Kd.R_far (p:=⟨gb419,0,none⟩) (Kd.R_types HO408.out BK419.out (by decide)) (fun _ hk => hk.2) (.slice Ao164 t415.length co164)) (fun _ h_ => h_.1))) hb);replace HO411:=Aside0.mk (Kd.R_below (by refine zV0 ?_;exact (Kd.R_mono (Kd.R_far (p:=⟨gb419,0,none⟩) (Kd.R_types HO411.out BK419.out (by decide)) (fun _ hk => hk.2) (.slice Ao164 t415.length co164)) (fun _ h_ => h_.1))) hb);replace HO414:=Aside0.mk (Kd.R_below (by refine zV0 ?_;exact (Kd.R_mono (Kd.R_far (p:=⟨gb419,0,none⟩) (Kd.R_types HO414.out BK419.out (by decide)) (fun _ hk => hk.2) (.slice Ao164 t415.length co164)) (fun _ h_ => h_.1))) hb);replace HO417:=Aside0.mk (Kd.R_below (by refine zV0 ?_;exact (Kd.R_mono (Kd.R_far (p:=⟨gb419,0,none⟩) (Kd.R_types HO417.out BK419.out (by decide)) (fun _ hk => hk.2) (.slice Ao164 t415.length co164)) (fun _ h_ => h_.1))) hb);replace BK351:=zb0 BK351 hb;replace BK367:=zb0 BK367 hb;replace BK371:=zb0 BK371 hb;replace BK382:=zb0 BK382 hb;replace BK419:=Aside0.mk (blk_below (g:=gb419) (o:=.cells #[.slice Ao164 t415.length co164] 30 (0,0)) (by refine zT0 ?_;refine blk_put (cs:=#[.slice none 0 0]) ?_ 0 _ rfl;exact zK0 BK419.out) hb);replace HB:=zs0 HB hb;(try clear hb);(try clear hk)))
                 go_meet
                 case rel => exact ⟨_,((t418 != t366)),zE0,H',⟨by have:=HJ25.out;have:=HJ92.out;first | omega | exact Nat.le_refl _⟩,⟨by (try simp only [hl372000_92]);refine zV0 ?_;exact Kd.R_mono HO_368000.out (fun _ hk => ⟨hk.1.1.1,⟨hk.1.1.2,hk.2⟩⟩)⟩,⟨by (try simp only [hl372000_92]);refine zV0 ?_;exact Kd.R_mono HO_372000.out (fun _ hk => ⟨hk.1.1.1,⟨hk.1.1.2,hk.2⟩⟩)⟩,⟨by (try simp only [hl372000_92]);refine zV0 ?_;exact Kd.R_mono HO_383000.out (fun _ hk => ⟨hk.1.1.1,⟨hk.1.1.2,hk.2⟩⟩)⟩,⟨by (try simp only [hl372000_92]);refine zV0 ?_;exact Kd.R_mono HO417.out (fun _ hk => ⟨hk.1.1.1.2,⟨hk.1.1.2,hk.1.2⟩⟩)⟩,⟨by (try simp only [hl372000_92]);exact zK0 BK351.out⟩,⟨by (try simp only [hl372000_92]);exact zK0 BK367.out⟩,⟨by (try simp only [hl372000_92]);exact zK0 BK371.out⟩,⟨by (try simp only [hl372000_92]);exact zK0 BK382.out⟩,⟨by (try simp only [hl372000_92]);exact zK0 BK419.out⟩,⟨zY0 HB.out⟩⟩
                ·replace c171:=Bool.eq_false_iff.mpr c171
                 subst c171
                 have H1 : (laws_FnExactCutActs.j2 kj92 t403 true t404) = some r:=by rw [if_neg (show ¬ (false = true) by decide)] at H;exact H
                 exact absurd (H1.trans (congrArg some hrt)) (by first | simp | (cases kj92 <;> simp [laws_FnExactCutActs.j0,laws_FnExactCutActs.j1,laws_FnExactCutActs.j2]) | (cases kj25 <;> simp [laws_FnExactCutActs.j0,laws_FnExactCutActs.j1,laws_FnExactCutActs.j2]) | (cases k <;> simp [laws_FnExactCutActs.j0,laws_FnExactCutActs.j1,laws_FnExactCutActs.j2]))
               case rest =>
                clear HC145
                try clear c5
                try clear c5b0
                try clear c5b1
                try clear c8
                try clear c8b0
                try clear c13
                try clear c13b0
                try clear c80
                try clear c83
                try clear c86
                try clear c89
                try clear c129
                try clear c132
                try clear c132b0
                try clear c140
                try clear c140b0
                try clear c140b1
                try clear hcz106_0
                try clear hcz124_0
                try clear hcz127_0
                try clear hcz136_0
                try clear hcz138_0
                try clear hcz149_0
                try clear hcz151_0
                try clear hcz155_0
                try clear hcz169_0
                try clear hcz186_0
                try clear hcz190_0
                try clear hcz28_0
                try clear hcz31_0
                try clear hcz42_0
                try clear hcz43_0
                try clear hcz49_0
                try clear hcz52_0
                try clear hcz61_0
                try clear hcz75_0
                try clear hcz78_0
                try clear hfz106_0
                try clear hfz124_0
                try clear hfz127_0
                try clear hfz136_0
                try clear hfz138_0
                try clear hfz149_0
                try clear hfz151_0
                try clear hfz155_0
                try clear hfz169_0
                try clear hfz186_0
                try clear hfz190_0
                try clear hfz28_0
                try clear hfz31_0
                try clear hfz42_0
                try clear hfz43_0
                try clear hfz49_0
                try clear hfz52_0
                try clear hfz61_0
                try clear hfz75_0
                try clear hfz78_0
                obtain ⟨kq,x136_144,rfl,HA,HJ144,HO_368000,HO_372000,HO_383000,HO_420000,BK351,BK367,BK371,BK382,BK419,HB⟩:=hcut
                have hl383000_144:=(Kd.R_reads' HO_383000.out).1
                rw [hl383000_144] at HO_383000
                (try simp only [hl383000_144])
                (try simp only [hl383000_144] at BK351)
                (try simp only [hl383000_144] at BK367)
                (try simp only [hl383000_144] at BK371)
                (try simp only [hl383000_144] at BK382)
                (try simp only [hl383000_144] at BK419)
                (try simp only [hl383000_144] at HO_368000)
                (try simp only [hl383000_144] at HO_372000)
                (try simp only [hl383000_144] at HO_420000)
                cases kq with
                | zero => exact absurd HA.out (by simp [laws_FnExactCutActs.j2])
                | succ kj144 =>
                 have H:=HA.out
                 clear HA
                 simp only [laws_FnExactCutActs.j2] at H
                 by_cases c192 : x136_144 = true
                 ·subst c192
                  have H1 : (some false) = some r:=by rw [if_pos rfl] at H;exact H
                  exact absurd (H1.trans (congrArg some hrt)) (by first | simp | (cases kj144 <;> simp [laws_FnExactCutActs.j0,laws_FnExactCutActs.j1,laws_FnExactCutActs.j2]) | (cases kj92 <;> simp [laws_FnExactCutActs.j0,laws_FnExactCutActs.j1,laws_FnExactCutActs.j2]) | (cases kj25 <;> simp [laws_FnExactCutActs.j0,laws_FnExactCutActs.j1,laws_FnExactCutActs.j2]) | (cases k <;> simp [laws_FnExactCutActs.j0,laws_FnExactCutActs.j1,laws_FnExactCutActs.j2]))
                 ·replace c192:=Bool.eq_false_iff.mpr c192
                  subst c192
                  have H1 : ((laws_heldDisk.f kj144 t404 1).bind fun t421 => (if t421 < 0 then (some false) else (if t421 = t403 then (some true) else (some false)))) = some r:=by rw [if_neg (show ¬ (false = true) by decide)] at H;exact H
                  clear H
                  have H:=H1
                  clear H1
                  replace H:=Option.bind_eq_some_iff.mp H
                  obtain ⟨t421,A1930,H⟩:=H
                  replace H : (if t421 < 0 then (some false) else (if t421 = t403 then (some true) else (some false))) = some r:=H
                  have A193:=Aside0.mk A1930
                  clear A1930
                  by_cases c194 : t421 < 0
                  ·rw [if_pos c194] at H
                   exact absurd (H.trans (congrArg some hrt)) (by first | simp | (cases kj144 <;> simp [laws_FnExactCutActs.j0,laws_FnExactCutActs.j1,laws_FnExactCutActs.j2]) | (cases kj92 <;> simp [laws_FnExactCutActs.j0,laws_FnExactCutActs.j1,laws_FnExactCutActs.j2]) | (cases kj25 <;> simp [laws_FnExactCutActs.j0,laws_FnExactCutActs.j1,laws_FnExactCutActs.j2]) | (cases k <;> simp [laws_FnExactCutActs.j0,laws_FnExactCutActs.j1,laws_FnExactCutActs.j2]))
                  ·rw [if_neg c194] at H
                   have c194b0 : decide (t421 < 0) = false:=decide_eq_false c194
                   clear c194
                   by_cases c201 : t421 = t403
                   ·rw [if_pos c201] at H
                    have c201b0 : (t421 == t403) = true:=beq_iff_eq.mpr c201
                    have c201b1 : (t421 != t403) = false:=bne_eq_false_iff_eq.mpr c201
                    clear c201
                    obtain rfl:=Option.some.inj H
                    obtain ⟨_,_⟩:=zn0 NB382_351
                    obtain ⟨_,_⟩:=zn0 NB382_367
                    obtain ⟨_,_⟩:=zn0 NB382_371
                    obtain ⟨_,_⟩:=zn0 NB382_419
                    have hcz206_0 : wc.cell? ⟨gb382,0,none⟩ = some (.slice Ao57 t404.length co57):=(blk_cell BK382.out 0).trans rfl
                    have hfz206_0:=blk_frozen BK382.out 0
                    go_wp2_with (first | ((with_reducible refine gate_callee (f:=34) rfl ?_);refine goesL_ (some 139) rfl rfl Try.func34 (by kernel_rfl) rfl #[.agg #[.slice Ao57 t404.length co57],.int .i64 1] rfl zM0 ?_;(with_reducible refine (laws_heldDisk.calls kj144 _ _ t404 1 t421 _ ?side1 ?side2 A193.out).mono ?_);(case side1 => exact zA0 ((Kd.R_reads' HO_383000.out).2.2));(case side2 => exact (Kd.R_reads' HO_383000.out).2.1);rintro e w207 ⟨rfl,hb⟩;refine ⟨_,rfl,?_⟩;replace HO_368000:=Aside0.mk (Kd.R_below (zR0 HO_368000.out) hb);replace HO_372000:=Aside0.mk (Kd.R_below (zR0 HO_372000.out) hb);replace HO_383000:=Aside0.mk (Kd.R_below (zR0 HO_383000.out) hb);replace HO_420000:=Aside0.mk (Kd.R_below (zR0 HO_420000.out) hb);replace BK351:=zb0 BK351 hb;replace BK367:=zb0 BK367 hb;replace BK371:=zb0 BK371 hb;replace BK382:=zb0 BK382 hb;replace BK419:=zb0 BK419 hb;replace HB:=zs0 HB hb;(try clear hb)))
                    go_ret
                    exact ⟨zW0,(zY0 HB.out)⟩
                   ·rw [if_neg c201] at H
                    have c201b0 : (t421 == t403) = false:=beq_eq_false_iff_ne.mpr c201
                    have c201b1 : (t421 != t403) = true:=bne_iff_ne.mpr c201
                    obtain rfl:=Option.some.inj H
                    obtain ⟨_,_⟩:=zn0 NB382_351
                    obtain ⟨_,_⟩:=zn0 NB382_367
                    obtain ⟨_,_⟩:=zn0 NB382_371
                    obtain ⟨_,_⟩:=zn0 NB382_419
                    have hcz212_0 : wc.cell? ⟨gb382,0,none⟩ = some (.slice Ao57 t404.length co57):=(blk_cell BK382.out 0).trans rfl
                    have hfz212_0:=blk_frozen BK382.out 0
                    go_wp2_with (first | ((with_reducible refine gate_callee (f:=34) rfl ?_);refine goesL_ (some 139) rfl rfl Try.func34 (by kernel_rfl) rfl #[.agg #[.slice Ao57 t404.length co57],.int .i64 1] rfl zM0 ?_;(with_reducible refine (laws_heldDisk.calls kj144 _ _ t404 1 t421 _ ?side1 ?side2 A193.out).mono ?_);(case side1 => exact zA0 ((Kd.R_reads' HO_383000.out).2.2));(case side2 => exact (Kd.R_reads' HO_383000.out).2.1);rintro e w213 ⟨rfl,hb⟩;refine ⟨_,rfl,?_⟩;replace HO_368000:=Aside0.mk (Kd.R_below (zR0 HO_368000.out) hb);replace HO_372000:=Aside0.mk (Kd.R_below (zR0 HO_372000.out) hb);replace HO_383000:=Aside0.mk (Kd.R_below (zR0 HO_383000.out) hb);replace HO_420000:=Aside0.mk (Kd.R_below (zR0 HO_420000.out) hb);replace BK351:=zb0 BK351 hb;replace BK367:=zb0 BK367 hb;replace BK371:=zb0 BK371 hb;replace BK382:=zb0 BK382 hb;replace BK419:=zb0 BK419 hb;replace HB:=zs0 HB hb;(try clear hb)))
                    go_ret
                    exact ⟨zW0,(zY0 HB.out)⟩
              ·rw [if_neg c140] at H
               have c140b0 : (t405 == t403) = false:=beq_eq_false_iff_ne.mpr c140
               have c140b1 : (t405 != t403) = true:=bne_iff_ne.mpr c140
               obtain rfl:=Option.some.inj H
               obtain ⟨_,_⟩:=zn0 NB382_351
               obtain ⟨_,_⟩:=zn0 NB382_367
               obtain ⟨_,_⟩:=zn0 NB382_371
               have hcz217_0 : wc.cell? ⟨gb382,0,none⟩ = some (.slice Ao57 t378.length co57):=(blk_cell BK382.out 0).trans rfl
               have hfz217_0:=blk_frozen BK382.out 0
               go_wp2_with (first | ((with_reducible refine gate_callee (f:=32) rfl ?_);refine goesL_ (some 108) rfl rfl Try.func32 (by kernel_rfl) rfl #[.agg #[.slice Ao57 t378.length co57],.int .i64 1] rfl zM0 ?_;(with_reducible refine (laws_markDisk.calls kj92 (fun k_ => some k_ = (.slice Ao57 t378.length co57 : Value).ownBlock) (.slice Ao57 t378.length co57) t378 1 t403 t404 w _ ?side1 ?side2 A130.out).mono ?_);(case side1 => repeat (first | (with_reducible first | exact HB.out | apply below_alloc | apply pw_below_drewN | apply below_drew1 | refine below_set ?_ GE351.out | refine below_set ?_ GE367.out | refine below_set ?_ GE371.out | refine below_set ?_ GE382.out) | exact HB.out));(case side2 => exact Kd.R_tight rfl HO_383000.out);rintro e w218 ⟨rfl,hy0,hb,hkp⟩;refine ⟨_,rfl,?_⟩;replace HO_368000:=Aside0.mk (Kd.R_mono (ok':=fun k_ => some k_ ≠ (.slice Ao46 t397.length co46 : Value).ownBlock ∧ some k_ ≠ (.slice Ao57 t378.length co57 : Value).ownBlock) (Kd.R_keptB (HO_368000.out) hkp (fun k_ hk_ hs_ => (hk_.2) hs_)) (fun k_ hk_ => ⟨hk_.1.1,hk_.1.2⟩));replace HO_372000:=Aside0.mk (Kd.R_mono (ok':=fun k_ => some k_ ≠ (.slice Ao40 t363.length co40 : Value).ownBlock ∧ some k_ ≠ (.slice Ao57 t378.length co57 : Value).ownBlock) (Kd.R_keptB (HO_372000.out) hkp (fun k_ hk_ hs_ => (hk_.2) hs_)) (fun k_ hk_ => ⟨hk_.1.1,hk_.1.2⟩));replace BK351:=Aside0.mk (blk_kept (zK0 BK351.out) hkp (fun hs_ => (fun e_ => (Kd.R_ne HO_383000.out BK351.out (by decide)) e_) hs_));replace BK367:=Aside0.mk (blk_kept (zK0 BK367.out) hkp (fun hs_ => (fun e_ => (Kd.R_ne HO_383000.out BK367.out (by decide)) e_) hs_));replace BK371:=Aside0.mk (blk_kept (zK0 BK371.out) hkp (fun hs_ => (fun e_ => (Kd.R_ne HO_383000.out BK371.out (by decide)) e_) hs_));replace BK382:=Aside0.mk (blk_kept (zK0 BK382.out) hkp (fun hs_ => (fun e_ => (Kd.R_ne HO_383000.out BK382.out (by decide)) e_) hs_));replace HO_383000:=Aside0.mk (Kd.R_reok rfl hy0 (fun k_ e_ => HO_383000.out.1 k_ e_));replace HB:=Aside0.mk hb;(try clear hb);(try clear hkp);(try clear hy0);have hcz219_0:=zc00 BK382;have hfz219_0:=blk_frozen BK382.out 0) | ((with_reducible refine gate_callee (f:=34) rfl ?_);refine goesL_ (some 111) rfl rfl Try.func34 (by kernel_rfl) rfl #[.agg #[.slice Ao57 t404.length co57],.int .i64 1] rfl (by (try simp only [List.map_toArray,List.map_cons,List.map_nil]);first | done | (rw [show t404.length = t378.length from (Kd.R_reads' HO_383000.out).1.symm] <;> rfl) | rfl | (simp only [List.length_drop,List.length_take];rfl)) ?_;(with_reducible refine (laws_heldDisk.calls kj92 _ _ t404 1 t405 _ ?side1 ?side2 A131.out).mono ?_);(case side1 => exact zA0 ((Kd.R_reads' HO_383000.out).2.2));(case side2 => rw [show t404.length = t378.length from (Kd.R_reads' HO_383000.out).1.symm];exact (Kd.R_reads' HO_383000.out).2.1);rintro e w220 ⟨rfl,hb⟩;refine ⟨_,rfl,?_⟩;replace HO_368000:=Aside0.mk (Kd.R_below (zR0 HO_368000.out) hb);replace HO_372000:=Aside0.mk (Kd.R_below (zR0 HO_372000.out) hb);replace HO_383000:=Aside0.mk (Kd.R_below (zR0 HO_383000.out) hb);replace BK351:=zb0 BK351 hb;replace BK367:=zb0 BK367 hb;replace BK371:=zb0 BK371 hb;replace BK382:=zb0 BK382 hb;replace HB:=zs0 HB hb;(try clear hb)))
               go_ret
               exact ⟨zW0,(zY0 HB.out)⟩
         ·replace c89:=Bool.eq_false_iff.mpr c89
          subst c89
          have H1 : (some false) = some r:=by rw [if_neg (show ¬ (false = true) by decide)] at H;exact H
          exact absurd (H1.trans (congrArg some hrt)) (by first | simp | (cases kj144 <;> simp [laws_FnExactCutActs.j0,laws_FnExactCutActs.j1,laws_FnExactCutActs.j2]) | (cases kj92 <;> simp [laws_FnExactCutActs.j0,laws_FnExactCutActs.j1,laws_FnExactCutActs.j2]) | (cases kj25 <;> simp [laws_FnExactCutActs.j0,laws_FnExactCutActs.j1,laws_FnExactCutActs.j2]) | (cases k <;> simp [laws_FnExactCutActs.j0,laws_FnExactCutActs.j1,laws_FnExactCutActs.j2]))
        ·replace c86:=Bool.eq_false_iff.mpr c86
         subst c86
         have H1 : (some false) = some r:=by rw [if_neg (show ¬ (false = true) by decide)] at H;exact H
         exact absurd (H1.trans (congrArg some hrt)) (by first | simp | (cases kj144 <;> simp [laws_FnExactCutActs.j0,laws_FnExactCutActs.j1,laws_FnExactCutActs.j2]) | (cases kj92 <;> simp [laws_FnExactCutActs.j0,laws_FnExactCutActs.j1,laws_FnExactCutActs.j2]) | (cases kj25 <;> simp [laws_FnExactCutActs.j0,laws_FnExactCutActs.j1,laws_FnExactCutActs.j2]) | (cases k <;> simp [laws_FnExactCutActs.j0,laws_FnExactCutActs.j1,laws_FnExactCutActs.j2]))
       ·replace c83:=Bool.eq_false_iff.mpr c83
        subst c83
        have H1 : (some false) = some r:=by rw [if_neg (show ¬ (false = true) by decide)] at H;exact H
        exact absurd (H1.trans (congrArg some hrt)) (by first | simp | (cases kj144 <;> simp [laws_FnExactCutActs.j0,laws_FnExactCutActs.j1,laws_FnExactCutActs.j2]) | (cases kj92 <;> simp [laws_FnExactCutActs.j0,laws_FnExactCutActs.j1,laws_FnExactCutActs.j2]) | (cases kj25 <;> simp [laws_FnExactCutActs.j0,laws_FnExactCutActs.j1,laws_FnExactCutActs.j2]) | (cases k <;> simp [laws_FnExactCutActs.j0,laws_FnExactCutActs.j1,laws_FnExactCutActs.j2]))end Go.Proofs.Ytgfacdhkamphiaa.PFnExactCutActs
