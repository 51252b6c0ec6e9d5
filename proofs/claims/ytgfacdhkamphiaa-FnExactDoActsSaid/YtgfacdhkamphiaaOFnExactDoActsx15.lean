/- Walks of functions that the law FnExactDoActs reaches, turned by this session from a print of which a part did not build; what was changed is listed in wip/patches of the proofs' repo. -/
import Derived.Test.YtgfacdhkamphiaaOFnExactDoActsx0
import Derived.Test.YtgfacdhkamphiaaOFnExactDoActsx1
import Derived.Test.YtgfacdhkamphiaaOFnExactDoActsx2
import Derived.Test.YtgfacdhkamphiaaOFnExactDoActsx3
import Derived.Test.YtgfacdhkamphiaaOFnExactDoActsx4
import Derived.Test.YtgfacdhkamphiaaOFnExactDoActsx9
import Derived.Test.YtgfacdhkamphiaaOFnExactDoActsx10
import Derived.Test.YtgfacdhkamphiaaOFnExactDoActsx14
namespace Go.Proofs.Ytgfacdhkamphiaa.PFnExactDoActs
open Go.RowKit Go.Proofs.YtgfacdhkamphiaaW.PrintWords Go.Proofs.YtgfacdhkamphiaaW.PrintLast Go.Proofs.YtgfacdhkamphiaaW.PrintMore
attribute [local go_sem] max2_int min2_int max_two min_two max_three min_three max_four min_four   -- for this text's walks alone
set_option linter.unusedVariables false
set_option linter.unusedSimpArgs false

/-! ### laws_FnExactDoActs: function 8 -/
mutual
def laws_FnExactDoActs.j0 : Nat → List (S52) → Int → List (S55) → Int → Bool → List (S134) → List (S45) → List (S45) → List (S45) → Option (Bool)
 | 0,_,_,_,_,_,_,_,_,_ => none
 | k + 1,x1,x7,x9,x11,x53,x279000,x292000,x296000,x304000 => if x53 = true then (some false) else ((laws_toDisk.f k x279000).bind fun t305 => ((laws_eqDisk.f k x296000 t305).bind fun t308 => (if t308 = true then ((laws_toActS.f k x1).bind fun t309 => ((laws_eqActS.f k x9 t309).bind fun t312 => (if t312 = true then ((laws_markDisk.f k x296000 1).bind fun bt313 => ((laws_markActS.f k x9 bt313.1).bind fun bt315 => (if bt315.1 < 0 then (laws_FnExactDoActs.j1 k x1 x7 true x279000 x292000 x304000) else ((laws_eqDisk.f k x304000 x292000).bind fun t317 => (if t317 = true then (laws_FnExactDoActs.j1 k x1 x7 (x11 != x7) x279000 x292000 x304000) else (laws_FnExactDoActs.j1 k x1 x7 true x279000 x292000 x304000)))))) else (some false)))) else (some false))))
def laws_FnExactDoActs.j1 : Nat → List (S52) → Int → Bool → List (S134) → List (S45) → List (S45) → Option (Bool)
 | 0,_,_,_,_,_,_ => none
 | k + 1,x1,x7,x82,x279000,x292000,x304000 => if x82 = true then (some false) else ((laws_markDisk.f k x304000 1).bind fun bt318 => ((laws_heldDisk.f k bt318.2 1).bind fun t320 => (if t320 < 0 then (some false) else (if t320 = bt318.1 then ((laws_toDisk.f k x279000).bind fun t321 => ((laws_toActS.f k x1).bind fun t324 => ((impl_DoActs.f k t321 t324).bind fun bt327 => ((laws_eqDisk.f k bt327.1 x292000).bind fun t332 => (if t332 = true then (laws_FnExactDoActs.j2 k bt318.1 (bt327.2 != x7) bt318.2) else (laws_FnExactDoActs.j2 k bt318.1 true bt318.2)))))) else (some false)))))
def laws_FnExactDoActs.j2 : Nat → Int → Bool → List (S45) → Option (Bool)
 | 0,_,_,_ => none
 | k + 1,x13,x110,x304000 => if x110 = true then (some false) else ((laws_heldDisk.f k x304000 1).bind fun t333 => (if t333 < 0 then (some false) else (if t333 = x13 then (some true) else (some false))))
end
def laws_FnExactDoActs.f (k : Nat) (l0_0 : List (S134)) (l1 : List (S52)) : Option (Bool):=(laws_szDisk.f k l0_0 1048576).bind fun t279 => (if t279 < 0 then (some true) else ((laws_szActS.f k l1 t279).bind fun t280 => (if t280 < 0 then (some true) else ((laws_toDisk.f k l0_0).bind fun t281 => ((laws_toActS.f k l1).bind fun t284 => ((spec_DoActs.f k t281 t284).bind fun bt287 => ((laws_toDisk.f k l0_0).bind fun t292 => ((laws_toActS.f k l1).bind fun t296 => ((impl_DoActs.f k t292 t296).bind fun bt299 => ((laws_eqDisk.f k bt299.1 bt287.1).bind fun t304 => (if t304 = true then (laws_FnExactDoActs.j0 k l1 bt287.2 t296 bt299.2 (bt299.2 != bt287.2) l0_0 bt287.1 t292 bt299.1) else (laws_FnExactDoActs.j0 k l1 bt287.2 t296 bt299.2 true l0_0 bt287.1 t292 bt299.1))))))))))))
theorem laws_FnExactDoActs.mono_l : ∀ k,(∀ y0 y1 y2 y3 y4 y5 y6 y7 y8,LeO (laws_FnExactDoActs.j0 k y0 y1 y2 y3 y4 y5 y6 y7 y8) (laws_FnExactDoActs.j0 (k + 1) y0 y1 y2 y3 y4 y5 y6 y7 y8)) ∧ (∀ y0 y1 y2 y3 y4 y5,LeO (laws_FnExactDoActs.j1 k y0 y1 y2 y3 y4 y5) (laws_FnExactDoActs.j1 (k + 1) y0 y1 y2 y3 y4 y5)) ∧ (∀ y0 y1 y2,LeO (laws_FnExactDoActs.j2 k y0 y1 y2) (laws_FnExactDoActs.j2 (k + 1) y0 y1 y2))
 | 0 => ⟨fun _ _ _ _ _ _ _ _ _ r h => by simp [laws_FnExactDoActs.j0] at h,fun _ _ _ _ _ _ r h => by simp [laws_FnExactDoActs.j1] at h,fun _ _ _ r h => by simp [laws_FnExactDoActs.j2] at h⟩
 | k + 1 => by
  obtain ⟨ih0,ih1,ih2⟩:=laws_FnExactDoActs.mono_l k
  refine ⟨?_,?_,?_⟩
  ·intro y0 y1 y2 y3 y4 y5 y6 y7 y8
   unfold laws_FnExactDoActs.j0
   repeat' first
   | (with_reducible exact ih0 _ _ _ _ _ _ _ _ _)
   | (with_reducible exact ih1 _ _ _ _ _ _)
   | (with_reducible exact ih2 _ _ _)
   | (with_reducible exact impl_DoActs.mono _ _ _)
   | (with_reducible exact laws_eqActS.mono _ _ _)
   | (with_reducible exact laws_eqDisk.mono _ _ _)
   | (with_reducible exact laws_heldDisk.mono _ _ _)
   | (with_reducible exact laws_markActS.mono _ _ _)
   | (with_reducible exact laws_markDisk.mono _ _ _)
   | (with_reducible exact laws_szActS.mono _ _ _)
   | (with_reducible exact laws_szDisk.mono _ _ _)
   | (with_reducible exact laws_toActS.mono _ _)
   | (with_reducible exact laws_toDisk.mono _ _)
   | (with_reducible exact spec_DoActs.mono _ _ _)
   | (with_reducible exact LeO.refl _)
   | (with_reducible exact LeO.none _)
   | (with_reducible refine LeO.ite ?_ ?_)
   | (with_reducible refine LeO.bind ?_ (fun _ => ?_))
   | exact ih0 _ _ _ _ _ _ _ _ _
   | exact ih1 _ _ _ _ _ _
   | exact ih2 _ _ _
   | exact impl_DoActs.mono _ _ _
   | exact laws_eqActS.mono _ _ _
   | exact laws_eqDisk.mono _ _ _
   | exact laws_heldDisk.mono _ _ _
   | exact laws_markActS.mono _ _ _
   | exact laws_markDisk.mono _ _ _
   | exact laws_szActS.mono _ _ _
   | exact laws_szDisk.mono _ _ _
   | exact laws_toActS.mono _ _
   | exact laws_toDisk.mono _ _
   | exact spec_DoActs.mono _ _ _
   | exact LeO.none _
   | refine LeO.ite ?_ ?_
   | refine LeO.bind ?_ (fun _ => ?_)
  ·intro y0 y1 y2 y3 y4 y5
   unfold laws_FnExactDoActs.j1
   repeat' first
   | (with_reducible exact ih0 _ _ _ _ _ _ _ _ _)
   | (with_reducible exact ih1 _ _ _ _ _ _)
   | (with_reducible exact ih2 _ _ _)
   | (with_reducible exact impl_DoActs.mono _ _ _)
   | (with_reducible exact laws_eqActS.mono _ _ _)
   | (with_reducible exact laws_eqDisk.mono _ _ _)
   | (with_reducible exact laws_heldDisk.mono _ _ _)
   | (with_reducible exact laws_markActS.mono _ _ _)
   | (with_reducible exact laws_markDisk.mono _ _ _)
   | (with_reducible exact laws_szActS.mono _ _ _)
   | (with_reducible exact laws_szDisk.mono _ _ _)
   | (with_reducible exact laws_toActS.mono _ _)
   | (with_reducible exact laws_toDisk.mono _ _)
   | (with_reducible exact spec_DoActs.mono _ _ _)
   | (with_reducible exact LeO.refl _)
   | (with_reducible exact LeO.none _)
   | (with_reducible refine LeO.ite ?_ ?_)
   | (with_reducible refine LeO.bind ?_ (fun _ => ?_))
   | exact ih0 _ _ _ _ _ _ _ _ _
   | exact ih1 _ _ _ _ _ _
   | exact ih2 _ _ _
   | exact impl_DoActs.mono _ _ _
   | exact laws_eqActS.mono _ _ _
   | exact laws_eqDisk.mono _ _ _
   | exact laws_heldDisk.mono _ _ _
   | exact laws_markActS.mono _ _ _
   | exact laws_markDisk.mono _ _ _
   | exact laws_szActS.mono _ _ _
   | exact laws_szDisk.mono _ _ _
   | exact laws_toActS.mono _ _
   | exact laws_toDisk.mono _ _
   | exact spec_DoActs.mono _ _ _
   | exact LeO.none _
   | refine LeO.ite ?_ ?_
   | refine LeO.bind ?_ (fun _ => ?_)
  ·intro y0 y1 y2
   unfold laws_FnExactDoActs.j2
   repeat' first
   | (with_reducible exact ih0 _ _ _ _ _ _ _ _ _)
   | (with_reducible exact ih1 _ _ _ _ _ _)
   | (with_reducible exact ih2 _ _ _)
   | (with_reducible exact impl_DoActs.mono _ _ _)
   | (with_reducible exact laws_eqActS.mono _ _ _)
   | (with_reducible exact laws_eqDisk.mono _ _ _)
   | (with_reducible exact laws_heldDisk.mono _ _ _)
   | (with_reducible exact laws_markActS.mono _ _ _)
   | (with_reducible exact laws_markDisk.mono _ _ _)
   | (with_reducible exact laws_szActS.mono _ _ _)
   | (with_reducible exact laws_szDisk.mono _ _ _)
   | (with_reducible exact laws_toActS.mono _ _)
   | (with_reducible exact laws_toDisk.mono _ _)
   | (with_reducible exact spec_DoActs.mono _ _ _)
   | (with_reducible exact LeO.refl _)
   | (with_reducible exact LeO.none _)
   | (with_reducible refine LeO.ite ?_ ?_)
   | (with_reducible refine LeO.bind ?_ (fun _ => ?_))
   | exact ih0 _ _ _ _ _ _ _ _ _
   | exact ih1 _ _ _ _ _ _
   | exact ih2 _ _ _
   | exact impl_DoActs.mono _ _ _
   | exact laws_eqActS.mono _ _ _
   | exact laws_eqDisk.mono _ _ _
   | exact laws_heldDisk.mono _ _ _
   | exact laws_markActS.mono _ _ _
   | exact laws_markDisk.mono _ _ _
   | exact laws_szActS.mono _ _ _
   | exact laws_szDisk.mono _ _ _
   | exact laws_toActS.mono _ _
   | exact laws_toDisk.mono _ _
   | exact spec_DoActs.mono _ _ _
   | exact LeO.none _
   | refine LeO.ite ?_ ?_
   | refine LeO.bind ?_ (fun _ => ?_)
theorem laws_FnExactDoActs.mono : ∀ a0 a1 k,LeO (laws_FnExactDoActs.f k a0 a1) (laws_FnExactDoActs.f (k + 1) a0 a1):=by
 intro a0 a1 k
 obtain ⟨ih0,ih1,ih2⟩:=laws_FnExactDoActs.mono_l k
 unfold laws_FnExactDoActs.f
 repeat' first
   | (with_reducible exact ih0 _ _ _ _ _ _ _ _ _)
   | (with_reducible exact ih1 _ _ _ _ _ _)
   | (with_reducible exact ih2 _ _ _)
   | (with_reducible exact impl_DoActs.mono _ _ _)
   | (with_reducible exact laws_eqActS.mono _ _ _)
   | (with_reducible exact laws_eqDisk.mono _ _ _)
   | (with_reducible exact laws_heldDisk.mono _ _ _)
   | (with_reducible exact laws_markActS.mono _ _ _)
   | (with_reducible exact laws_markDisk.mono _ _ _)
   | (with_reducible exact laws_szActS.mono _ _ _)
   | (with_reducible exact laws_szDisk.mono _ _ _)
   | (with_reducible exact laws_toActS.mono _ _)
   | (with_reducible exact laws_toDisk.mono _ _)
   | (with_reducible exact spec_DoActs.mono _ _ _)
   | (with_reducible exact LeO.refl _)
   | (with_reducible exact LeO.none _)
   | (with_reducible refine LeO.ite ?_ ?_)
   | (with_reducible refine LeO.bind ?_ (fun _ => ?_))
   | exact ih0 _ _ _ _ _ _ _ _ _
   | exact ih1 _ _ _ _ _ _
   | exact ih2 _ _ _
   | exact impl_DoActs.mono _ _ _
   | exact laws_eqActS.mono _ _ _
   | exact laws_eqDisk.mono _ _ _
   | exact laws_heldDisk.mono _ _ _
   | exact laws_markActS.mono _ _ _
   | exact laws_markDisk.mono _ _ _
   | exact laws_szActS.mono _ _ _
   | exact laws_szDisk.mono _ _ _
   | exact laws_toActS.mono _ _
   | exact laws_toDisk.mono _ _
   | exact spec_DoActs.mono _ _ _
   | exact LeO.none _
   | refine LeO.ite ?_ ?_
   | refine LeO.bind ?_ (fun _ => ?_)
set_option maxHeartbeats 8000000 in
set_option maxRecDepth 100000 in
theorem laws_FnExactDoActs.calls (k : Nat) (A0_0 : Option Addr) (c0_0 : Nat) (l0_0 : List (S134)) (A1 : Option Addr) (c1 : Nat) (l1 : List (S52)) (r : Bool) (w : World) (hr0_0 : Kd.C k134 w A0_0 l0_0.length l0_0) (hc0_0 : l0_0.length ≤ c0_0) (hr1 : Kd.C k52 w A1 l1.length l1) (hc1 : l1.length ≤ c1) (h : laws_FnExactDoActs.f k l0_0 l1 = some r) (hrt : r = true) :
  Calls Try.prog 8 #[.agg #[.slice A0_0 l0_0.length c0_0],.slice A1 l1.length c1] w fun e w' => e = .returned (.bool r) ∧ Below w.heap.size w w':=by
 have hu24:=Try.underlying24
 have hu30:=Try.underlying30
 have HR0_0:=Aside0.mk hr0_0
 have HC0_0:=Aside0.mk hc0_0
 clear hr0_0 hc0_0
 have HR1:=Aside0.mk hr1
 have HC1:=Aside0.mk hc1
 clear hr1 hc1
 have HB:=Aside0.mk (Below.refl w.heap.size w)
 have H : ((laws_szDisk.f k l0_0 1048576).bind fun t279 => (if t279 < 0 then (some true) else ((laws_szActS.f k l1 t279).bind fun t280 => (if t280 < 0 then (some true) else ((laws_toDisk.f k l0_0).bind fun t281 => ((laws_toActS.f k l1).bind fun t284 => ((spec_DoActs.f k t281 t284).bind fun bt287 => ((laws_toDisk.f k l0_0).bind fun t292 => ((laws_toActS.f k l1).bind fun t296 => ((impl_DoActs.f k t292 t296).bind fun bt299 => ((laws_eqDisk.f k bt299.1 bt287.1).bind fun t304 => (if t304 = true then (laws_FnExactDoActs.j0 k l1 bt287.2 t296 bt299.2 (bt299.2 != bt287.2) l0_0 bt287.1 t292 bt299.1) else (laws_FnExactDoActs.j0 k l1 bt287.2 t296 bt299.2 true l0_0 bt287.1 t292 bt299.1))))))))))))) = some r:=h
 clear h
 replace H:=Option.bind_eq_some_iff.mp H
 obtain ⟨t279,A30,H⟩:=H
 replace H : (if t279 < 0 then (some true) else ((laws_szActS.f k l1 t279).bind fun t280 => (if t280 < 0 then (some true) else ((laws_toDisk.f k l0_0).bind fun t281 => ((laws_toActS.f k l1).bind fun t284 => ((spec_DoActs.f k t281 t284).bind fun bt287 => ((laws_toDisk.f k l0_0).bind fun t292 => ((laws_toActS.f k l1).bind fun t296 => ((impl_DoActs.f k t292 t296).bind fun bt299 => ((laws_eqDisk.f k bt299.1 bt287.1).bind fun t304 => (if t304 = true then (laws_FnExactDoActs.j0 k l1 bt287.2 t296 bt299.2 (bt299.2 != bt287.2) l0_0 bt287.1 t292 bt299.1) else (laws_FnExactDoActs.j0 k l1 bt287.2 t296 bt299.2 true l0_0 bt287.1 t292 bt299.1)))))))))))) = some r:=H
 have A3:=Aside0.mk A30
 clear A30
 by_cases c4 : t279 < 0
 ·rw [if_pos c4] at H
  have c4b0 : decide (t279 < 0) = true:=decide_eq_true c4
  clear c4
  obtain rfl:=Option.some.inj H
  go_enter Try.func8,Try.ntmps8
  go_wp2_with (first | ((with_reducible refine gate_dst (N:=2) rfl ?_);refine box_event ?hg (N:=2) ?hd (cs:=#[.slice A0_0 l0_0.length c0_0]) (t:=24) ?hr ?_;(case hd => rfl);(case hg => rfl);(case hr => first | (go_simp;done) | (go_simp;rfl));intro gb278 hg w5 hbox hb;have n0_:=Aside0.mk (zS0 HB.out hb);have n1_:=Aside0.mk (hbox);have n2_:=Aside0.mk ((by rw [hg];exact (zZ0 HB.out) : w.heap.size ≤ gb278));have n3_:=Aside0.mk ((by rw [hg];exact (zZ0 HB.out) : w.heap.size ≤ gb278));clear HB;have HB:=n0_;have BK278:=n1_;have GW278:=n2_;have GE278:=n3_;clear n0_ n1_ n2_ n3_;clear hb hbox hg;have hcz6_0 : w5.cell? ⟨gb278,0,none⟩ = some (.slice A0_0 l0_0.length c0_0):=(blk_cell BK278.out 0).trans rfl;have hfz6_0:=blk_frozen BK278.out 0) | ((with_reducible refine gate_callee (f:=14) rfl ?_);refine goesL_ (some 19) rfl rfl Try.func14 (by kernel_rfl) rfl #[.agg #[.slice A0_0 l0_0.length c0_0],.int .i64 1048576] rfl zM0 ?_;(with_reducible refine (laws_szDisk.calls k _ _ l0_0 1048576 t279 _ ?side1 ?side2 A3.out).mono ?_);(case side1 => repeat (first | exact (Kd.C_below HR0_0.out HB.out) | (with_reducible refine Kd.C_alloc ?_ _) | (with_reducible refine Kd.C_drewN ?_ _) | (with_reducible refine Kd.C_drew ?_)));(case side2 => exact HC0_0.out);rintro e w7 ⟨rfl,hb⟩;refine ⟨_,rfl,?_⟩;have n0_:=Aside0.mk (zB0 BK278.out hb);have n1_:=Aside0.mk (zS0 HB.out hb);clear BK278;clear HB;have BK278:=n0_;have HB:=n1_;clear n0_ n1_;(try clear hb);(try clear hb2);(try clear hk);(try clear hi)))
  go_ret
  exact ⟨by first | rfl | (simp [errW_none,errW_some] <;> rfl) | (simp [*,errW_none,errW_some] <;> rfl),(zY0 HB.out)⟩
 ·rw [if_neg c4] at H
  have c4b0 : decide (t279 < 0) = false:=decide_eq_false c4
  clear c4
  replace H:=Option.bind_eq_some_iff.mp H
  obtain ⟨t280,A80,H⟩:=H
  replace H : (if t280 < 0 then (some true) else ((laws_toDisk.f k l0_0).bind fun t281 => ((laws_toActS.f k l1).bind fun t284 => ((spec_DoActs.f k t281 t284).bind fun bt287 => ((laws_toDisk.f k l0_0).bind fun t292 => ((laws_toActS.f k l1).bind fun t296 => ((impl_DoActs.f k t292 t296).bind fun bt299 => ((laws_eqDisk.f k bt299.1 bt287.1).bind fun t304 => (if t304 = true then (laws_FnExactDoActs.j0 k l1 bt287.2 t296 bt299.2 (bt299.2 != bt287.2) l0_0 bt287.1 t292 bt299.1) else (laws_FnExactDoActs.j0 k l1 bt287.2 t296 bt299.2 true l0_0 bt287.1 t292 bt299.1)))))))))) = some r:=H
  have A8:=Aside0.mk A80
  clear A80
  by_cases c9 : t280 < 0
  ·rw [if_pos c9] at H
   have c9b0 : decide (t280 < 0) = true:=decide_eq_true c9
   clear c9
   obtain rfl:=Option.some.inj H
   go_enter Try.func8,Try.ntmps8
   go_wp2_with (first | ((with_reducible refine gate_dst (N:=2) rfl ?_);refine box_event ?hg (N:=2) ?hd (cs:=#[.slice A0_0 l0_0.length c0_0]) (t:=24) ?hr ?_;(case hd => rfl);(case hg => rfl);(case hr => first | (go_simp;done) | (go_simp;rfl));intro gb278 hg w10 hbox hb;have n0_:=Aside0.mk (zS0 HB.out hb);have n1_:=Aside0.mk (hbox);have n2_:=Aside0.mk ((by rw [hg];exact (zZ0 HB.out) : w.heap.size ≤ gb278));have n3_:=Aside0.mk ((by rw [hg];exact (zZ0 HB.out) : w.heap.size ≤ gb278));clear HB;have HB:=n0_;have BK278:=n1_;have GW278:=n2_;have GE278:=n3_;clear n0_ n1_ n2_ n3_;clear hb hbox hg;have hcz11_0 : w10.cell? ⟨gb278,0,none⟩ = some (.slice A0_0 l0_0.length c0_0):=(blk_cell BK278.out 0).trans rfl;have hfz11_0:=blk_frozen BK278.out 0) | ((with_reducible refine gate_callee (f:=14) rfl ?_);refine goesL_ (some 19) rfl rfl Try.func14 (by kernel_rfl) rfl #[.agg #[.slice A0_0 l0_0.length c0_0],.int .i64 1048576] rfl zM0 ?_;(with_reducible refine (laws_szDisk.calls k _ _ l0_0 1048576 t279 _ ?side1 ?side2 A3.out).mono ?_);(case side1 => repeat (first | exact (Kd.C_below HR0_0.out HB.out) | (with_reducible refine Kd.C_alloc ?_ _) | (with_reducible refine Kd.C_drewN ?_ _) | (with_reducible refine Kd.C_drew ?_)));(case side2 => exact HC0_0.out);rintro e w12 ⟨rfl,hb⟩;refine ⟨_,rfl,?_⟩;have n0_:=Aside0.mk (zB0 BK278.out hb);have n1_:=Aside0.mk (zS0 HB.out hb);clear BK278;clear HB;have BK278:=n0_;have HB:=n1_;clear n0_ n1_;(try clear hb);(try clear hb2);(try clear hk);(try clear hi)) | ((with_reducible refine gate_callee (f:=39) rfl ?_);refine goesL_ (some 24) rfl rfl Try.func39 (by kernel_rfl) rfl #[.slice A1 l1.length c1,.int .i64 t279] rfl zM0 ?_;(with_reducible refine (laws_szActS.calls k _ _ l1 t279 t280 _ ?side1 ?side2 A8.out).mono ?_);(case side1 => repeat (first | exact (Kd.C_below HR1.out HB.out) | (with_reducible refine Kd.C_alloc ?_ _) | (with_reducible refine Kd.C_drewN ?_ _) | (with_reducible refine Kd.C_drew ?_)));(case side2 => exact HC1.out);rintro e w13 ⟨rfl,hb⟩;refine ⟨_,rfl,?_⟩;have n0_:=Aside0.mk (zB0 BK278.out hb);have n1_:=Aside0.mk (zS0 HB.out hb);clear BK278;clear HB;have BK278:=n0_;have HB:=n1_;clear n0_ n1_;(try clear hb);(try clear hb2);(try clear hk);(try clear hi)))
   go_ret
   exact ⟨by first | rfl | (simp [errW_none,errW_some] <;> rfl) | (simp [*,errW_none,errW_some] <;> rfl),(zY0 HB.out)⟩
  ·rw [if_neg c9] at H
   have c9b0 : decide (t280 < 0) = false:=decide_eq_false c9
   clear c9
   replace H:=Option.bind_eq_some_iff.mp H
   obtain ⟨t281,A140,H⟩:=H
   replace H : ((laws_toActS.f k l1).bind fun t284 => ((spec_DoActs.f k t281 t284).bind fun bt287 => ((laws_toDisk.f k l0_0).bind fun t292 => ((laws_toActS.f k l1).bind fun t296 => ((impl_DoActs.f k t292 t296).bind fun bt299 => ((laws_eqDisk.f k bt299.1 bt287.1).bind fun t304 => (if t304 = true then (laws_FnExactDoActs.j0 k l1 bt287.2 t296 bt299.2 (bt299.2 != bt287.2) l0_0 bt287.1 t292 bt299.1) else (laws_FnExactDoActs.j0 k l1 bt287.2 t296 bt299.2 true l0_0 bt287.1 t292 bt299.1)))))))) = some r:=H
   have A14:=Aside0.mk A140
   clear A140
   replace H:=Option.bind_eq_some_iff.mp H
   obtain ⟨t284,A150,H⟩:=H
   replace H : ((spec_DoActs.f k t281 t284).bind fun bt287 => ((laws_toDisk.f k l0_0).bind fun t292 => ((laws_toActS.f k l1).bind fun t296 => ((impl_DoActs.f k t292 t296).bind fun bt299 => ((laws_eqDisk.f k bt299.1 bt287.1).bind fun t304 => (if t304 = true then (laws_FnExactDoActs.j0 k l1 bt287.2 t296 bt299.2 (bt299.2 != bt287.2) l0_0 bt287.1 t292 bt299.1) else (laws_FnExactDoActs.j0 k l1 bt287.2 t296 bt299.2 true l0_0 bt287.1 t292 bt299.1))))))) = some r:=H
   have A15:=Aside0.mk A150
   clear A150
   replace H:=Option.bind_eq_some_iff.mp H
   obtain ⟨⟨t287,t290⟩,A160,H⟩:=H
   replace H : ((laws_toDisk.f k l0_0).bind fun t292 => ((laws_toActS.f k l1).bind fun t296 => ((impl_DoActs.f k t292 t296).bind fun bt299 => ((laws_eqDisk.f k bt299.1 t287).bind fun t304 => (if t304 = true then (laws_FnExactDoActs.j0 k l1 t290 t296 bt299.2 (bt299.2 != t290) l0_0 t287 t292 bt299.1) else (laws_FnExactDoActs.j0 k l1 t290 t296 bt299.2 true l0_0 t287 t292 bt299.1)))))) = some r:=H
   have A16:=Aside0.mk A160
   clear A160
   replace H:=Option.bind_eq_some_iff.mp H
   obtain ⟨t292,A170,H⟩:=H
   replace H : ((laws_toActS.f k l1).bind fun t296 => ((impl_DoActs.f k t292 t296).bind fun bt299 => ((laws_eqDisk.f k bt299.1 t287).bind fun t304 => (if t304 = true then (laws_FnExactDoActs.j0 k l1 t290 t296 bt299.2 (bt299.2 != t290) l0_0 t287 t292 bt299.1) else (laws_FnExactDoActs.j0 k l1 t290 t296 bt299.2 true l0_0 t287 t292 bt299.1))))) = some r:=H
   have A17:=Aside0.mk A170
   clear A170
   replace H:=Option.bind_eq_some_iff.mp H
   obtain ⟨t296,A180,H⟩:=H
   replace H : ((impl_DoActs.f k t292 t296).bind fun bt299 => ((laws_eqDisk.f k bt299.1 t287).bind fun t304 => (if t304 = true then (laws_FnExactDoActs.j0 k l1 t290 t296 bt299.2 (bt299.2 != t290) l0_0 t287 t292 bt299.1) else (laws_FnExactDoActs.j0 k l1 t290 t296 bt299.2 true l0_0 t287 t292 bt299.1)))) = some r:=H
   have A18:=Aside0.mk A180
   clear A180
   replace H:=Option.bind_eq_some_iff.mp H
   obtain ⟨⟨t299,t302⟩,A190,H⟩:=H
   replace H : ((laws_eqDisk.f k t299 t287).bind fun t304 => (if t304 = true then (laws_FnExactDoActs.j0 k l1 t290 t296 t302 (t302 != t290) l0_0 t287 t292 t299) else (laws_FnExactDoActs.j0 k l1 t290 t296 t302 true l0_0 t287 t292 t299))) = some r:=H
   have A19:=Aside0.mk A190
   clear A190
   have HC20:=Aside0.mk H
   clear H
   go_enter Try.func8,Try.ntmps8
   go_upto_region 12 with (first | ((with_reducible refine gate_dst (N:=2) rfl ?_);refine box_event ?hg (N:=2) ?hd (cs:=#[.slice A0_0 l0_0.length c0_0]) (t:=24) ?hr ?_;(case hd => rfl);(case hg => rfl);(case hr => first | (go_simp;done) | (go_simp;rfl));intro gb278 hg w21 hbox hb;have n0_:=Aside0.mk (zS0 HB.out hb);have n1_:=Aside0.mk (hbox);have n2_:=Aside0.mk ((by rw [hg];exact (zZ0 HB.out) : w.heap.size ≤ gb278));have n3_:=Aside0.mk ((by rw [hg];exact (zZ0 HB.out) : w.heap.size ≤ gb278));clear HB;have HB:=n0_;have BK278:=n1_;have GW278:=n2_;have GE278:=n3_;clear n0_ n1_ n2_ n3_;clear hb hbox hg;have hcz22_0 : w21.cell? ⟨gb278,0,none⟩ = some (.slice A0_0 l0_0.length c0_0):=(blk_cell BK278.out 0).trans rfl;have hfz22_0:=blk_frozen BK278.out 0) | ((with_reducible refine gate_callee (f:=14) rfl ?_);refine goesL_ (some 19) rfl rfl Try.func14 (by kernel_rfl) rfl #[.agg #[.slice A0_0 l0_0.length c0_0],.int .i64 1048576] rfl zM0 ?_;(with_reducible refine (laws_szDisk.calls k _ _ l0_0 1048576 t279 _ ?side1 ?side2 A3.out).mono ?_);(case side1 => repeat (first | exact (Kd.C_below HR0_0.out HB.out) | (with_reducible refine Kd.C_alloc ?_ _) | (with_reducible refine Kd.C_drewN ?_ _) | (with_reducible refine Kd.C_drew ?_)));(case side2 => exact HC0_0.out);rintro e w23 ⟨rfl,hb⟩;refine ⟨_,rfl,?_⟩;have n0_:=Aside0.mk (zB0 BK278.out hb);have n1_:=Aside0.mk (zS0 HB.out hb);clear BK278;clear HB;have BK278:=n0_;have HB:=n1_;clear n0_ n1_;(try clear hb);(try clear hb2);(try clear hk);(try clear hi)) | ((with_reducible refine gate_callee (f:=39) rfl ?_);refine goesL_ (some 24) rfl rfl Try.func39 (by kernel_rfl) rfl #[.slice A1 l1.length c1,.int .i64 t279] rfl zM0 ?_;(with_reducible refine (laws_szActS.calls k _ _ l1 t279 t280 _ ?side1 ?side2 A8.out).mono ?_);(case side1 => repeat (first | exact (Kd.C_below HR1.out HB.out) | (with_reducible refine Kd.C_alloc ?_ _) | (with_reducible refine Kd.C_drewN ?_ _) | (with_reducible refine Kd.C_drew ?_)));(case side2 => exact HC1.out);rintro e w24 ⟨rfl,hb⟩;refine ⟨_,rfl,?_⟩;have n0_:=Aside0.mk (zB0 BK278.out hb);have n1_:=Aside0.mk (zS0 HB.out hb);clear BK278;clear HB;have BK278:=n0_;have HB:=n1_;clear n0_ n1_;(try clear hb);(try clear hb2);(try clear hk);(try clear hi);have hcz25_0 : w24.cell? ⟨gb278,0,none⟩ = some (.slice A0_0 l0_0.length c0_0):=(blk_cell BK278.out 0).trans rfl;have hfz25_0:=blk_frozen BK278.out 0) | ((with_reducible refine gate_callee (f:=16) rfl ?_);refine goesL_ (some 29) rfl rfl Try.func16 (by kernel_rfl) rfl #[.agg #[.slice A0_0 l0_0.length c0_0]] rfl zM0 ?_;(with_reducible refine (laws_toDisk.calls k _ _ l0_0 t281 _ ?side1 ?side2 A14.out).mono ?_);(case side1 => repeat (first | exact (Kd.C_below HR0_0.out HB.out) | (with_reducible refine Kd.C_alloc ?_ _) | (with_reducible refine Kd.C_drewN ?_ _) | (with_reducible refine Kd.C_drew ?_)));(case side2 => exact HC0_0.out);rintro e w26 ⟨v282,rfl,ho0,hb⟩;refine ⟨_,rfl,?_⟩;have n0_:=Aside0.mk (Kd.R_lower ho0 (zZ0 HB.out));have n1_:=Aside0.mk (zB0 BK278.out hb);have n2_:=Aside0.mk (zS0 HB.out hb);clear BK278;clear HB;have HO283:=n0_;have BK278:=n1_;have HB:=n2_;clear n0_ n1_ n2_;(try clear hb);(try clear hb2);(try clear hk);(try clear hi);(try clear ho0)) | ((with_reducible refine gate_callee (f:=41) rfl ?_);refine goesL_ (some 31) rfl rfl Try.func41 (by kernel_rfl) rfl #[.slice A1 l1.length c1] rfl zM0 ?_;(with_reducible refine (laws_toActS.calls k _ _ l1 t284 _ ?side1 ?side2 A15.out).mono ?_);(case side1 => repeat (first | exact (Kd.C_below HR1.out HB.out) | (with_reducible refine Kd.C_alloc ?_ _) | (with_reducible refine Kd.C_drewN ?_ _) | (with_reducible refine Kd.C_drew ?_)));(case side2 => exact HC1.out);rintro e w27 ⟨v285,rfl,ho0,hb⟩;refine ⟨_,rfl,?_⟩;have n0_:=Aside0.mk (Kd.R_below (zR0 HO283.out) hb);have n1_:=Aside0.mk (Kd.R_lower ho0 (zZ0 HB.out));have n2_:=Aside0.mk (zB0 BK278.out hb);have n3_:=Aside0.mk (zS0 HB.out hb);clear HO283;clear BK278;clear HB;have HO283:=n0_;have HO286:=n1_;have BK278:=n2_;have HB:=n3_;clear n0_ n1_ n2_ n3_;(try clear hb);(try clear hb2);(try clear hk);(try clear hi);(try clear ho0);obtain ⟨Ao28,co28,eo28⟩:=Kd.R_slice HO283.out;subst eo28;obtain ⟨Ao29,co29,eo29⟩:=Kd.R_slice HO286.out;subst eo29) | ((with_reducible refine gate_callee (f:=40) rfl ?_);refine goesL_ (some 32) rfl rfl Try.func40 (by kernel_rfl) rfl #[.agg #[.slice Ao28 t281.length co28],.slice Ao29 t284.length co29] rfl zM0 ?_;(with_reducible refine (spec_DoActs.calls k _ _ t281 _ _ t284 t287 t290 _ ?side1 ?side2 ?side3 ?side4 A16.out).mono ?_);(case side1 => repeat (first | exact (Kd.R_reads' HO283.out).2.2 | (with_reducible refine Kd.C_alloc ?_ _) | (with_reducible refine Kd.C_drewN ?_ _) | (with_reducible refine Kd.C_drew ?_)));(case side2 => exact (Kd.R_reads' HO283.out).2.1);(case side3 => repeat (first | exact (Kd.R_reads' HO286.out).2.2 | (with_reducible refine Kd.C_alloc ?_ _) | (with_reducible refine Kd.C_drewN ?_ _) | (with_reducible refine Kd.C_drew ?_)));(case side4 => exact (Kd.R_reads' HO286.out).2.1);rintro e w30 ⟨v288,rfl,ho0,hb⟩;refine ⟨_,rfl,?_⟩;have n0_:=Aside0.mk (Kd.R_elder' (zR0 HO283.out) (Kd.R_base ho0) hb);have n1_:=Aside0.mk (Kd.R_below (zR0 HO286.out) hb);have n2_:=Aside0.mk (Kd.R_lower (Kd.R_new' ho0 (Kd.R_lt (zR0 HO283.out))) (zZ0 HB.out));have n3_:=Aside0.mk (zB0 BK278.out hb);have n4_:=Aside0.mk (zS0 HB.out hb);clear HO283;clear HO286;clear BK278;clear HB;have HO283:=n0_;have HO286:=n1_;have HO289:=n2_;have BK278:=n3_;have HB:=n4_;clear n0_ n1_ n2_ n3_ n4_;(try clear hb);(try clear hb2);(try clear hk);(try clear hi);(try clear ho0)) | ((with_reducible refine gate_dst (N:=6) rfl ?_);refine box_event ?hg (N:=6) ?hd (cs:=#[.slice none 0 0]) (t:=30) ?hr ?_;(case hd => rfl);(case hg => rfl);(case hr => first | (go_simp;done) | (go_simp;rfl));intro gb291 hg w31 hbox hb;have n0_:=Aside0.mk (Kd.R_below (zR0 HO283.out) hb);have n1_:=Aside0.mk (Kd.R_below (zR0 HO286.out) hb);have n2_:=Aside0.mk (Kd.R_below (zR0 HO289.out) hb);have n3_:=Aside0.mk (zB0 BK278.out hb);have n4_:=Aside0.mk (zS0 HB.out hb);have n5_:=Aside0.mk (hbox);have n6_:=Aside0.mk ((by rw [hg];exact (zZ0 HB.out) : w.heap.size ≤ gb291));have n7_:=Aside0.mk ((by rw [hg];exact (zZ0 HB.out) : w.heap.size ≤ gb291));have n8_:=Aside0.mk ((zL0 hg BK278.out : gb278 ≠ gb291));have n9_:=Aside0.mk ((zG0 hg BK278.out : gb291 ≠ gb278));clear HO283;clear HO286;clear HO289;clear BK278;clear HB;have HO283:=n0_;have HO286:=n1_;have HO289:=n2_;have BK278:=n3_;have HB:=n4_;have BK291:=n5_;have GW291:=n6_;have GE291:=n7_;have NB278_291:=n8_;have NB291_278:=n9_;clear n0_ n1_ n2_ n3_ n4_ n5_ n6_ n7_ n8_ n9_;clear hb hbox hg;obtain ⟨Ao32,co32,eo32⟩:=Kd.R_slice HO289.out;subst eo32;have hnb33:=NB291_278.out;have hnc33:=NB278_291.out;have hcz34_0 : w31.cell? ⟨gb291,0,none⟩ = some (.slice none 0 0):=(blk_cell BK291.out 0).trans rfl;have hfz34_0:=blk_frozen BK291.out 0;have hcz35_0 : w31.cell? ⟨gb278,0,none⟩ = some (.slice A0_0 l0_0.length c0_0):=(blk_cell BK278.out 0).trans rfl;have hfz35_0:=blk_frozen BK278.out 0) | ((with_reducible refine gate_callee (f:=16) rfl ?_);refine goesL_ (some 36) rfl rfl Try.func16 (by kernel_rfl) rfl #[.agg #[.slice A0_0 l0_0.length c0_0]] rfl zM0 ?_;(with_reducible refine (laws_toDisk.calls k _ _ l0_0 t292 _ ?side1 ?side2 A17.out).mono ?_);(case side1 => exact Kd.C_below HR0_0.out (zY0 HB.out));(case side2 => exact HC0_0.out);rintro e w36 ⟨v293,rfl,ho0,hb⟩;refine ⟨_,rfl,?_⟩;have n0_:=Aside0.mk (Kd.R_elder' (by refine zV0 ?_;exact (Kd.R_mono (Kd.R_far (p:=⟨gb291,0,none⟩) (Kd.R_types HO283.out BK291.out (by decide)) (fun _ hk => hk.2) (.slice Ao32 t287.length co32)) (fun _ h_ => h_.1))) (Kd.R_base ho0) hb);have n1_:=Aside0.mk (Kd.R_below (by refine zV0 ?_;exact (Kd.R_mono (Kd.R_far (p:=⟨gb291,0,none⟩) (Kd.R_types HO286.out BK291.out (by decide)) (fun _ hk => hk.2) (.slice Ao32 t287.length co32)) (fun _ h_ => h_.1))) hb);have n2_:=Aside0.mk (Kd.R_elder' (by refine zV0 ?_;exact (Kd.R_mono (Kd.R_far (p:=⟨gb291,0,none⟩) (Kd.R_types HO289.out BK291.out (by decide)) (fun _ hk => hk.2) (.slice Ao32 t287.length co32)) (fun _ h_ => h_.1))) (Kd.R_base ho0) hb);have n3_:=Aside0.mk (Kd.R_lower (Kd.R_new' (Kd.R_new' ho0 (Kd.R_lt (by refine zV0 ?_;exact (Kd.R_mono (Kd.R_far (p:=⟨gb291,0,none⟩) (Kd.R_types HO283.out BK291.out (by decide)) (fun _ hk => hk.2) (.slice Ao32 t287.length co32)) (fun _ h_ => h_.1))))) (Kd.R_lt (by refine zV0 ?_;exact (Kd.R_mono (Kd.R_far (p:=⟨gb291,0,none⟩) (Kd.R_types HO289.out BK291.out (by decide)) (fun _ hk => hk.2) (.slice Ao32 t287.length co32)) (fun _ h_ => h_.1))))) (zZ0 HB.out));have n4_:=Aside0.mk (zB0 BK278.out hb);have n5_:=Aside0.mk (blk_below (g:=gb291) (o:=.cells #[.slice Ao32 t287.length co32] 30 (0,0)) (by refine zT0 ?_;refine blk_put (cs:=#[.slice none 0 0]) ?_ 0 _ rfl;exact zK0 BK291.out) hb);have n6_:=Aside0.mk (zS0 HB.out hb);clear HO283;clear HO286;clear HO289;clear BK278;clear BK291;clear HB;have HO283:=n0_;have HO286:=n1_;have HO289:=n2_;have HO294:=n3_;have BK278:=n4_;have BK291:=n5_;have HB:=n6_;clear n0_ n1_ n2_ n3_ n4_ n5_ n6_;(try clear hb);(try clear hb2);(try clear hk);(try clear hi);(try clear ho0)) | ((with_reducible refine gate_dst (N:=8) rfl ?_);refine box_event ?hg (N:=8) ?hd (cs:=#[.slice none 0 0]) (t:=30) ?hr ?_;(case hd => rfl);(case hg => rfl);(case hr => first | (go_simp;done) | (go_simp;rfl));intro gb295 hg w37 hbox hb;have n0_:=Aside0.mk (Kd.R_below (zR0 HO283.out) hb);have n1_:=Aside0.mk (Kd.R_below (zR0 HO286.out) hb);have n2_:=Aside0.mk (Kd.R_below (zR0 HO289.out) hb);have n3_:=Aside0.mk (Kd.R_below (zR0 HO294.out) hb);have n4_:=Aside0.mk (zB0 BK278.out hb);have n5_:=Aside0.mk (zB0 BK291.out hb);have n6_:=Aside0.mk (zS0 HB.out hb);have n7_:=Aside0.mk (hbox);have n8_:=Aside0.mk ((by rw [hg];exact (zZ0 HB.out) : w.heap.size ≤ gb295));have n9_:=Aside0.mk ((by rw [hg];exact (zZ0 HB.out) : w.heap.size ≤ gb295));have n10_:=Aside0.mk ((zL0 hg BK278.out : gb278 ≠ gb295));have n11_:=Aside0.mk ((zG0 hg BK278.out : gb295 ≠ gb278));have n12_:=Aside0.mk ((zL0 hg BK291.out : gb291 ≠ gb295));have n13_:=Aside0.mk ((zG0 hg BK291.out : gb295 ≠ gb291));clear HO283;clear HO286;clear HO289;clear HO294;clear BK278;clear BK291;clear HB;have HO283:=n0_;have HO286:=n1_;have HO289:=n2_;have HO294:=n3_;have BK278:=n4_;have BK291:=n5_;have HB:=n6_;have BK295:=n7_;have GW295:=n8_;have GE295:=n9_;have NB278_295:=n10_;have NB295_278:=n11_;have NB291_295:=n12_;have NB295_291:=n13_;clear n0_ n1_ n2_ n3_ n4_ n5_ n6_ n7_ n8_ n9_ n10_ n11_ n12_ n13_;clear hb hbox hg;obtain ⟨Ao38,co38,eo38⟩:=Kd.R_slice HO294.out;subst eo38;have hnb39:=NB295_278.out;have hnc39:=NB278_295.out;have hnb40:=NB295_291.out;have hnc40:=NB291_295.out;have hcz41_0 : w37.cell? ⟨gb295,0,none⟩ = some (.slice none 0 0):=(blk_cell BK295.out 0).trans rfl;have hfz41_0:=blk_frozen BK295.out 0) | ((with_reducible refine gate_callee (f:=41) rfl ?_);refine goesL_ (some 38) rfl rfl Try.func41 (by kernel_rfl) rfl #[.slice A1 l1.length c1] rfl zM0 ?_;(with_reducible refine (laws_toActS.calls k _ _ l1 t296 _ ?side1 ?side2 A18.out).mono ?_);(case side1 => exact Kd.C_below HR1.out (zY0 HB.out));(case side2 => exact HC1.out);rintro e w42 ⟨v297,rfl,ho0,hb⟩;refine ⟨_,rfl,?_⟩;have n0_:=Aside0.mk (Kd.R_below (by refine zV0 ?_;exact (Kd.R_mono (Kd.R_far (p:=⟨gb295,0,none⟩) (Kd.R_types HO283.out BK295.out (by decide)) (fun _ hk => hk.2) (.slice Ao38 t292.length co38)) (fun _ h_ => h_.1))) hb);have n1_:=Aside0.mk (Kd.R_elder' (by refine zV0 ?_;exact (Kd.R_mono (Kd.R_far (p:=⟨gb295,0,none⟩) (Kd.R_types HO286.out BK295.out (by decide)) (fun _ hk => hk.2) (.slice Ao38 t292.length co38)) (fun _ h_ => h_.1))) (Kd.R_base ho0) hb);have n2_:=Aside0.mk (Kd.R_below (by refine zV0 ?_;exact (Kd.R_mono (Kd.R_far (p:=⟨gb295,0,none⟩) (Kd.R_types HO289.out BK295.out (by decide)) (fun _ hk => hk.2) (.slice Ao38 t292.length co38)) (fun _ h_ => h_.1))) hb);have n3_:=Aside0.mk (Kd.R_below (by refine zV0 ?_;exact (Kd.R_mono (Kd.R_far (p:=⟨gb295,0,none⟩) (Kd.R_types HO294.out BK295.out (by decide)) (fun _ hk => hk.2) (.slice Ao38 t292.length co38)) (fun _ h_ => h_.1))) hb);have n4_:=Aside0.mk (Kd.R_lower (Kd.R_new' ho0 (Kd.R_lt (by refine zV0 ?_;exact (Kd.R_mono (Kd.R_far (p:=⟨gb295,0,none⟩) (Kd.R_types HO286.out BK295.out (by decide)) (fun _ hk => hk.2) (.slice Ao38 t292.length co38)) (fun _ h_ => h_.1))))) (zZ0 HB.out));have n5_:=Aside0.mk (zB0 BK278.out hb);have n6_:=Aside0.mk (zB0 BK291.out hb);have n7_:=Aside0.mk (blk_below (g:=gb295) (o:=.cells #[.slice Ao38 t292.length co38] 30 (0,0)) (by refine zT0 ?_;refine blk_put (cs:=#[.slice none 0 0]) ?_ 0 _ rfl;exact zK0 BK295.out) hb);have n8_:=Aside0.mk (zS0 HB.out hb);clear HO283;clear HO286;clear HO289;clear HO294;clear BK278;clear BK291;clear BK295;clear HB;have HO283:=n0_;have HO286:=n1_;have HO289:=n2_;have HO294:=n3_;have HO298:=n4_;have BK278:=n5_;have BK291:=n6_;have BK295:=n7_;have HB:=n8_;clear n0_ n1_ n2_ n3_ n4_ n5_ n6_ n7_ n8_;(try clear hb);(try clear hb2);(try clear hk);(try clear hi);(try clear ho0);have hcz43_0 : w42.cell? ⟨gb295,0,none⟩ = some (.slice Ao38 t292.length co38):=(blk_cell BK295.out 0).trans rfl;have hfz43_0:=blk_frozen BK295.out 0;obtain ⟨Ao44,co44,eo44⟩:=Kd.R_slice HO298.out;subst eo44) | ((with_reducible refine gate_callee (f:=42) rfl ?_);refine goesL_ (some 42) rfl rfl Try.func42 (by kernel_rfl) rfl #[.agg #[.slice Ao38 t292.length co38],.slice Ao44 t296.length co44] rfl zM0 ?_;(with_reducible refine (impl_DoActs.calls k _ _ t292 _ _ t296 t299 t302 _ ?side1 ?side2 ?side3 ?side4 A19.out).mono ?_);(case side1 => repeat (first | exact (Kd.R_reads' HO294.out).2.2 | (with_reducible refine Kd.C_alloc ?_ _) | (with_reducible refine Kd.C_drewN ?_ _) | (with_reducible refine Kd.C_drew ?_)));(case side2 => exact (Kd.R_reads' HO294.out).2.1);(case side3 => repeat (first | exact (Kd.R_reads' HO298.out).2.2 | (with_reducible refine Kd.C_alloc ?_ _) | (with_reducible refine Kd.C_drewN ?_ _) | (with_reducible refine Kd.C_drew ?_)));(case side4 => exact (Kd.R_reads' HO298.out).2.1);rintro e w45 ⟨v300,rfl,ho0,hb⟩;refine ⟨_,rfl,?_⟩;have n0_:=Aside0.mk (Kd.R_elder' (zR0 HO283.out) (Kd.R_base ho0) hb);have n1_:=Aside0.mk (Kd.R_below (zR0 HO286.out) hb);have n2_:=Aside0.mk (Kd.R_elder' (zR0 HO289.out) (Kd.R_base ho0) hb);have n3_:=Aside0.mk (Kd.R_elder' (zR0 HO294.out) (Kd.R_base ho0) hb);have n4_:=Aside0.mk (Kd.R_below (zR0 HO298.out) hb);have n5_:=Aside0.mk (Kd.R_lower (Kd.R_new' (Kd.R_new' (Kd.R_new' ho0 (Kd.R_lt (zR0 HO283.out))) (Kd.R_lt (zR0 HO289.out))) (Kd.R_lt (zR0 HO294.out))) (zZ0 HB.out));have n6_:=Aside0.mk (zB0 BK278.out hb);have n7_:=Aside0.mk (zB0 BK291.out hb);have n8_:=Aside0.mk (zB0 BK295.out hb);have n9_:=Aside0.mk (zS0 HB.out hb);clear HO283;clear HO286;clear HO289;clear HO294;clear HO298;clear BK278;clear BK291;clear BK295;clear HB;have HO283:=n0_;have HO286:=n1_;have HO289:=n2_;have HO294:=n3_;have HO298:=n4_;have HO301:=n5_;have BK278:=n6_;have BK291:=n7_;have BK295:=n8_;have HB:=n9_;clear n0_ n1_ n2_ n3_ n4_ n5_ n6_ n7_ n8_ n9_;(try clear hb);(try clear hb2);(try clear hk);(try clear hi);(try clear ho0)) | ((with_reducible refine gate_dst (N:=10) rfl ?_);refine box_event ?hg (N:=10) ?hd (cs:=#[.slice none 0 0]) (t:=30) ?hr ?_;(case hd => rfl);(case hg => rfl);(case hr => first | (go_simp;done) | (go_simp;rfl));intro gb303 hg w46 hbox hb;have n0_:=Aside0.mk (Kd.R_below (zR0 HO283.out) hb);have n1_:=Aside0.mk (Kd.R_below (zR0 HO286.out) hb);have n2_:=Aside0.mk (Kd.R_below (zR0 HO289.out) hb);have n3_:=Aside0.mk (Kd.R_below (zR0 HO294.out) hb);have n4_:=Aside0.mk (Kd.R_below (zR0 HO298.out) hb);have n5_:=Aside0.mk (Kd.R_below (zR0 HO301.out) hb);have n6_:=Aside0.mk (zB0 BK278.out hb);have n7_:=Aside0.mk (zB0 BK291.out hb);have n8_:=Aside0.mk (zB0 BK295.out hb);have n9_:=Aside0.mk (zS0 HB.out hb);have n10_:=Aside0.mk (hbox);have n11_:=Aside0.mk ((by rw [hg];exact (zZ0 HB.out) : w.heap.size ≤ gb303));have n12_:=Aside0.mk ((by rw [hg];exact (zZ0 HB.out) : w.heap.size ≤ gb303));have n13_:=Aside0.mk ((zL0 hg BK278.out : gb278 ≠ gb303));have n14_:=Aside0.mk ((zG0 hg BK278.out : gb303 ≠ gb278));have n15_:=Aside0.mk ((zL0 hg BK291.out : gb291 ≠ gb303));have n16_:=Aside0.mk ((zG0 hg BK291.out : gb303 ≠ gb291));have n17_:=Aside0.mk ((zL0 hg BK295.out : gb295 ≠ gb303));have n18_:=Aside0.mk ((zG0 hg BK295.out : gb303 ≠ gb295));clear HO283;clear HO286;clear HO289;clear HO294;clear HO298;clear HO301;clear BK278;clear BK291;clear BK295;clear HB;have HO283:=n0_;have HO286:=n1_;have HO289:=n2_;have HO294:=n3_;have HO298:=n4_;have HO301:=n5_;have BK278:=n6_;have BK291:=n7_;have BK295:=n8_;have HB:=n9_;have BK303:=n10_;have GW303:=n11_;have GE303:=n12_;have NB278_303:=n13_;have NB303_278:=n14_;have NB291_303:=n15_;have NB303_291:=n16_;have NB295_303:=n17_;have NB303_295:=n18_;clear n0_ n1_ n2_ n3_ n4_ n5_ n6_ n7_ n8_ n9_ n10_ n11_ n12_ n13_ n14_ n15_ n16_ n17_ n18_;clear hb hbox hg;obtain ⟨Ao47,co47,eo47⟩:=Kd.R_slice HO301.out;subst eo47;have hnb48:=NB303_278.out;have hnc48:=NB278_303.out;have hnb49:=NB303_291.out;have hnc49:=NB291_303.out;have hnb50:=NB303_295.out;have hnc50:=NB295_303.out;have hcz51_0 : w46.cell? ⟨gb303,0,none⟩ = some (.slice none 0 0):=(blk_cell BK303.out 0).trans rfl;have hfz51_0:=blk_frozen BK303.out 0))
   (try simp only [Act.put,qA0,qB0,qC0])
   go_cut [53] (fun v53 wc => ∃ (kq : Nat) (x53_19 : Bool),v53 = .bool x53_19 ∧ Aside0 (laws_FnExactDoActs.j0 kq l1 t290 t296 t302 x53_19 l0_0 t287 t292 t299 = some r) ∧ Aside0 (kq ≤ k) ∧ Aside0 (Kd.R k55 55 wc w.heap.size (fun _ => True) (.slice Ao44 t296.length co44) t296) ∧ Aside0 (Kd.R k45 45 wc w.heap.size (fun k_ => some k_ ≠ ((.slice Ao38 t292.length co38) : Value).ownBlock ∧ some k_ ≠ ((.slice Ao47 t299.length co47) : Value).ownBlock) (.slice Ao32 t287.length co32) t287) ∧ Aside0 (Kd.R k45 45 wc w.heap.size (fun k_ => some k_ ≠ ((.slice Ao32 t287.length co32) : Value).ownBlock ∧ some k_ ≠ ((.slice Ao47 t299.length co47) : Value).ownBlock) (.slice Ao38 t292.length co38) t292) ∧ Aside0 (Kd.R k45 45 wc w.heap.size (fun k_ => some k_ ≠ ((.slice Ao32 t287.length co32) : Value).ownBlock ∧ some k_ ≠ ((.slice Ao38 t292.length co38) : Value).ownBlock) (.slice Ao47 t299.length co47) t299) ∧ Aside0 (wc.heap[gb278]? = some (.cells #[(.slice A0_0 l0_0.length c0_0)] 24 (0,0))) ∧ Aside0 (wc.heap[gb291]? = some (.cells #[(.slice Ao32 t287.length co32)] 30 (0,0))) ∧ Aside0 (wc.heap[gb295]? = some (.cells #[(.slice Ao38 t292.length co38)] 30 (0,0))) ∧ Aside0 (wc.heap[gb303]? = some (.cells #[(.slice Ao47 t299.length co47)] 30 (0,0))) ∧ Aside0 (Below w.heap.size w wc))
   case first =>
    have H:=HC20.out
    clear HC20
    replace H:=Option.bind_eq_some_iff.mp H
    obtain ⟨t304,A520,H⟩:=H
    replace H : (if t304 = true then (laws_FnExactDoActs.j0 k l1 t290 t296 t302 (t302 != t290) l0_0 t287 t292 t299) else (laws_FnExactDoActs.j0 k l1 t290 t296 t302 true l0_0 t287 t292 t299)) = some r:=H
    have A52:=Aside0.mk A520
    clear A520
    by_cases c53 : t304 = true
    ·subst c53
     have H1 : (laws_FnExactDoActs.j0 k l1 t290 t296 t302 (t302 != t290) l0_0 t287 t292 t299) = some r:=by rw [if_pos rfl] at H;exact H
     clear H
     have H:=H1
     clear H1
     have H':=Aside0.mk H
     clear H
     have hnb54:=NB303_278.out
     have hnc54:=NB278_303.out
     have hnb55:=NB303_291.out
     have hnc55:=NB291_303.out
     have hnb56:=NB303_295.out
     have hnc56:=NB295_303.out
     have hcz57_0 : w46.cell? ⟨gb303,0,none⟩ = some (.slice none 0 0):=(blk_cell BK303.out 0).trans rfl
     have hfz57_0:=blk_frozen BK303.out 0
     have hnb58:=NB291_278.out
     have hnc58:=NB278_291.out
     have hnb59:=NB291_295.out
     have hnc59:=NB295_291.out
     have hcz60_0 : w46.cell? ⟨gb291,0,none⟩ = some (.slice Ao32 t287.length co32):=(blk_cell BK291.out 0).trans rfl
     have hfz60_0:=blk_frozen BK291.out 0
     go_wp2_with (first | ((with_reducible refine gate_callee (f:=18) rfl ?_);refine goesL_ (some 47) rfl rfl Try.func18 (by kernel_rfl) rfl #[.agg #[.slice Ao47 t299.length co47],.agg #[.slice Ao32 t287.length co32]] rfl zM0 ?_;(with_reducible refine (laws_eqDisk.calls k _ _ t299 _ _ t287 true _ ?side1 ?side2 ?side3 ?side4 A52.out).mono ?_);(case side1 => refine (Kd.R_reads' (e:=45) (base:=w.heap.size) (ok:=fun k_ => (((True ∧ some k_ ≠ (.slice Ao28 t281.length co28 : Value).ownBlock) ∧ some k_ ≠ (.slice Ao32 t287.length co32 : Value).ownBlock) ∧ some k_ ≠ (.slice Ao38 t292.length co38 : Value).ownBlock)) (n:=t299.length) (c:=co47) ?_).2.2;exact (by refine zV0 ?_;exact (Kd.R_mono (Kd.R_far (p:=⟨gb303,0,none⟩) (Kd.R_types HO301.out BK303.out (by decide)) (fun _ hk => hk.2) (.slice Ao47 t299.length co47)) (fun _ h_ => h_.1))));(case side2 => exact (Kd.R_reads' HO301.out).2.1);(case side3 => refine (Kd.R_reads' (e:=45) (base:=w.heap.size) (ok:=fun k_ => (((True ∧ some k_ ≠ (.slice Ao28 t281.length co28 : Value).ownBlock) ∧ some k_ ≠ (.slice Ao38 t292.length co38 : Value).ownBlock) ∧ some k_ ≠ (.slice Ao47 t299.length co47 : Value).ownBlock)) (n:=t287.length) (c:=co32) ?_).2.2;exact (by refine zV0 ?_;exact (Kd.R_mono (Kd.R_far (p:=⟨gb303,0,none⟩) (Kd.R_types HO289.out BK303.out (by decide)) (fun _ hk => hk.2) (.slice Ao47 t299.length co47)) (fun _ h_ => h_.1))));(case side4 => exact (Kd.R_reads' HO289.out).2.1);rintro e w61 ⟨rfl,hb⟩;refine ⟨_,rfl,?_⟩;have n0_:=Aside0.mk (Kd.R_below (by refine zV0 ?_;exact (Kd.R_mono (Kd.R_far (p:=⟨gb303,0,none⟩) (Kd.R_types HO283.out BK303.out (by decide)) (fun _ hk => hk.2) (.slice Ao47 t299.length co47)) (fun _ h_ => h_.1))) hb);have n1_:=Aside0.mk (Kd.R_below (by refine zV0 ?_;exact (Kd.R_mono (Kd.R_far (p:=⟨gb303,0,none⟩) (Kd.R_types HO286.out BK303.out (by decide)) (fun _ hk => hk.2) (.slice Ao47 t299.length co47)) (fun _ h_ => h_.1))) hb);have n2_:=Aside0.mk (Kd.R_below (by refine zV0 ?_;exact (Kd.R_mono (Kd.R_far (p:=⟨gb303,0,none⟩) (Kd.R_types HO289.out BK303.out (by decide)) (fun _ hk => hk.2) (.slice Ao47 t299.length co47)) (fun _ h_ => h_.1))) hb);have n3_:=Aside0.mk (Kd.R_below (by refine zV0 ?_;exact (Kd.R_mono (Kd.R_far (p:=⟨gb303,0,none⟩) (Kd.R_types HO294.out BK303.out (by decide)) (fun _ hk => hk.2) (.slice Ao47 t299.length co47)) (fun _ h_ => h_.1))) hb);have n4_:=Aside0.mk (Kd.R_below (by refine zV0 ?_;exact (Kd.R_mono (Kd.R_far (p:=⟨gb303,0,none⟩) (Kd.R_types HO298.out BK303.out (by decide)) (fun _ hk => hk.2) (.slice Ao47 t299.length co47)) (fun _ h_ => h_.1))) hb);have n5_:=Aside0.mk (Kd.R_below (by refine zV0 ?_;exact (Kd.R_mono (Kd.R_far (p:=⟨gb303,0,none⟩) (Kd.R_types HO301.out BK303.out (by decide)) (fun _ hk => hk.2) (.slice Ao47 t299.length co47)) (fun _ h_ => h_.1))) hb);have n6_:=Aside0.mk (zB0 BK278.out hb);have n7_:=Aside0.mk (zB0 BK291.out hb);have n8_:=Aside0.mk (zB0 BK295.out hb);have n9_:=Aside0.mk (blk_below (g:=gb303) (o:=.cells #[.slice Ao47 t299.length co47] 30 (0,0)) (by refine zT0 ?_;refine blk_put (cs:=#[.slice none 0 0]) ?_ 0 _ rfl;exact zK0 BK303.out) hb);have n10_:=Aside0.mk (zS0 HB.out hb);clear HO283;clear HO286;clear HO289;clear HO294;clear HO298;clear HO301;clear BK278;clear BK291;clear BK295;clear BK303;clear HB;have HO283:=n0_;have HO286:=n1_;have HO289:=n2_;have HO294:=n3_;have HO298:=n4_;have HO301:=n5_;have BK278:=n6_;have BK291:=n7_;have BK295:=n8_;have BK303:=n9_;have HB:=n10_;clear n0_ n1_ n2_ n3_ n4_ n5_ n6_ n7_ n8_ n9_ n10_;(try clear hb);(try clear hb2);(try clear hk);(try clear hi)))
     go_meet
     case rel => exact ⟨_,((t302 != t290)),(by first | rfl | (simp;done) | (simp [*];done)),H',⟨by first | omega | exact Nat.le_refl _⟩,⟨by refine zV0 ?_;exact Kd.R_mono HO298.out (fun _ hk => trivial)⟩,⟨by refine zV0 ?_;exact Kd.R_mono HO289.out (fun _ hk => ⟨hk.1.2,hk.2⟩)⟩,⟨by refine zV0 ?_;exact Kd.R_mono HO294.out (fun _ hk => ⟨hk.1.2,hk.2⟩)⟩,⟨by refine zV0 ?_;exact Kd.R_mono HO301.out (fun _ hk => ⟨hk.1.2,hk.2⟩)⟩,⟨zK0 BK278.out⟩,⟨zK0 BK291.out⟩,⟨zK0 BK295.out⟩,⟨zK0 BK303.out⟩,⟨zY0 HB.out⟩⟩
    ·replace c53:=Bool.eq_false_iff.mpr c53
     subst c53
     have H1 : (laws_FnExactDoActs.j0 k l1 t290 t296 t302 true l0_0 t287 t292 t299) = some r:=by rw [if_neg (show ¬ (false = true) by decide)] at H;exact H
     exact absurd (H1.trans (congrArg some hrt)) (by first | simp | (cases k <;> simp [laws_FnExactDoActs.j0,laws_FnExactDoActs.j1,laws_FnExactDoActs.j2]))
   case rest =>
    clear HC20
    try clear c1
    try clear p2
    try clear c3
    try clear c4
    try clear c4b0
    try clear c5
    try clear c6
    try clear c8
    try clear c9
    try clear c9b0
    try clear c14
    try clear c16
    try clear c18
    try clear c33
    try clear c39
    try clear c40
    try clear c41
    try clear c42
    try clear c48
    try clear c49
    try clear c50
    try clear c53
    try clear c54
    try clear c55
    try clear c56
    try clear c58
    try clear c59
    try clear c62
    try clear c63
    try clear c64
    try clear c66
    try clear c67
    try clear hcz11_0
    try clear hcz22_0
    try clear hcz25_0
    try clear hcz34_0
    try clear hcz35_0
    try clear hcz41_0
    try clear hcz43_0
    try clear hcz51_0
    try clear hcz57_0
    try clear hcz60_0
    try clear hcz65_0
    try clear hcz68_0
    try clear hcz6_0
    try clear hfz11_0
    try clear hfz22_0
    try clear hfz25_0
    try clear hfz34_0
    try clear hfz35_0
    try clear hfz41_0
    try clear hfz43_0
    try clear hfz51_0
    try clear hfz57_0
    try clear hfz60_0
    try clear hfz65_0
    try clear hfz68_0
    try clear hfz6_0
    obtain ⟨kq,x53_19,rfl,HA,HJ19,HO_9,HO_292000,HO_296000,HO_304000,BK278,BK291,BK295,BK303,HB⟩:=hcut
    cases kq with
    | zero => exact absurd HA.out (by simp [laws_FnExactDoActs.j0])
    | succ kj19 =>
     have H:=HA.out
     clear HA
     simp only [laws_FnExactDoActs.j0] at H
     by_cases c70 : x53_19 = true
     ·subst c70
      have H1 : (some false) = some r:=by rw [if_pos rfl] at H;exact H
      exact absurd (H1.trans (congrArg some hrt)) (by first | simp | (cases kj19 <;> simp [laws_FnExactDoActs.j0,laws_FnExactDoActs.j1,laws_FnExactDoActs.j2]) | (cases k <;> simp [laws_FnExactDoActs.j0,laws_FnExactDoActs.j1,laws_FnExactDoActs.j2]))
     ·replace c70:=Bool.eq_false_iff.mpr c70
      subst c70
      have H1 : ((laws_toDisk.f kj19 l0_0).bind fun t305 => ((laws_eqDisk.f kj19 t292 t305).bind fun t308 => (if t308 = true then ((laws_toActS.f kj19 l1).bind fun t309 => ((laws_eqActS.f kj19 t296 t309).bind fun t312 => (if t312 = true then ((laws_markDisk.f kj19 t292 1).bind fun bt313 => ((laws_markActS.f kj19 t296 bt313.1).bind fun bt315 => (if bt315.1 < 0 then (laws_FnExactDoActs.j1 kj19 l1 t290 true l0_0 t287 t299) else ((laws_eqDisk.f kj19 t299 t287).bind fun t317 => (if t317 = true then (laws_FnExactDoActs.j1 kj19 l1 t290 (t302 != t290) l0_0 t287 t299) else (laws_FnExactDoActs.j1 kj19 l1 t290 true l0_0 t287 t299)))))) else (some false)))) else (some false)))) = some r:=by rw [if_neg (show ¬ (false = true) by decide)] at H;exact H
      clear H
      have H:=H1
      clear H1
      replace H:=Option.bind_eq_some_iff.mp H
      obtain ⟨t305,A710,H⟩:=H
      replace H : ((laws_eqDisk.f kj19 t292 t305).bind fun t308 => (if t308 = true then ((laws_toActS.f kj19 l1).bind fun t309 => ((laws_eqActS.f kj19 t296 t309).bind fun t312 => (if t312 = true then ((laws_markDisk.f kj19 t292 1).bind fun bt313 => ((laws_markActS.f kj19 t296 bt313.1).bind fun bt315 => (if bt315.1 < 0 then (laws_FnExactDoActs.j1 kj19 l1 t290 true l0_0 t287 t299) else ((laws_eqDisk.f kj19 t299 t287).bind fun t317 => (if t317 = true then (laws_FnExactDoActs.j1 kj19 l1 t290 (t302 != t290) l0_0 t287 t299) else (laws_FnExactDoActs.j1 kj19 l1 t290 true l0_0 t287 t299)))))) else (some false)))) else (some false))) = some r:=H
      have A71:=Aside0.mk A710
      clear A710
      replace H:=Option.bind_eq_some_iff.mp H
      obtain ⟨t308,A720,H⟩:=H
      replace H : (if t308 = true then ((laws_toActS.f kj19 l1).bind fun t309 => ((laws_eqActS.f kj19 t296 t309).bind fun t312 => (if t312 = true then ((laws_markDisk.f kj19 t292 1).bind fun bt313 => ((laws_markActS.f kj19 t296 bt313.1).bind fun bt315 => (if bt315.1 < 0 then (laws_FnExactDoActs.j1 kj19 l1 t290 true l0_0 t287 t299) else ((laws_eqDisk.f kj19 t299 t287).bind fun t317 => (if t317 = true then (laws_FnExactDoActs.j1 kj19 l1 t290 (t302 != t290) l0_0 t287 t299) else (laws_FnExactDoActs.j1 kj19 l1 t290 true l0_0 t287 t299)))))) else (some false)))) else (some false)) = some r:=H
      have A72:=Aside0.mk A720
      clear A720
      by_cases c73 : t308 = true
      ·subst c73
       have H1 : ((laws_toActS.f kj19 l1).bind fun t309 => ((laws_eqActS.f kj19 t296 t309).bind fun t312 => (if t312 = true then ((laws_markDisk.f kj19 t292 1).bind fun bt313 => ((laws_markActS.f kj19 t296 bt313.1).bind fun bt315 => (if bt315.1 < 0 then (laws_FnExactDoActs.j1 kj19 l1 t290 true l0_0 t287 t299) else ((laws_eqDisk.f kj19 t299 t287).bind fun t317 => (if t317 = true then (laws_FnExactDoActs.j1 kj19 l1 t290 (t302 != t290) l0_0 t287 t299) else (laws_FnExactDoActs.j1 kj19 l1 t290 true l0_0 t287 t299)))))) else (some false)))) = some r:=by rw [if_pos rfl] at H;exact H
       clear H
       have H:=H1
       clear H1
       replace H:=Option.bind_eq_some_iff.mp H
       obtain ⟨t309,A740,H⟩:=H
       replace H : ((laws_eqActS.f kj19 t296 t309).bind fun t312 => (if t312 = true then ((laws_markDisk.f kj19 t292 1).bind fun bt313 => ((laws_markActS.f kj19 t296 bt313.1).bind fun bt315 => (if bt315.1 < 0 then (laws_FnExactDoActs.j1 kj19 l1 t290 true l0_0 t287 t299) else ((laws_eqDisk.f kj19 t299 t287).bind fun t317 => (if t317 = true then (laws_FnExactDoActs.j1 kj19 l1 t290 (t302 != t290) l0_0 t287 t299) else (laws_FnExactDoActs.j1 kj19 l1 t290 true l0_0 t287 t299)))))) else (some false))) = some r:=H
       have A74:=Aside0.mk A740
       clear A740
       replace H:=Option.bind_eq_some_iff.mp H
       obtain ⟨t312,A750,H⟩:=H
       replace H : (if t312 = true then ((laws_markDisk.f kj19 t292 1).bind fun bt313 => ((laws_markActS.f kj19 t296 bt313.1).bind fun bt315 => (if bt315.1 < 0 then (laws_FnExactDoActs.j1 kj19 l1 t290 true l0_0 t287 t299) else ((laws_eqDisk.f kj19 t299 t287).bind fun t317 => (if t317 = true then (laws_FnExactDoActs.j1 kj19 l1 t290 (t302 != t290) l0_0 t287 t299) else (laws_FnExactDoActs.j1 kj19 l1 t290 true l0_0 t287 t299)))))) else (some false)) = some r:=H
       have A75:=Aside0.mk A750
       clear A750
       by_cases c76 : t312 = true
       ·subst c76
        have H1 : ((laws_markDisk.f kj19 t292 1).bind fun bt313 => ((laws_markActS.f kj19 t296 bt313.1).bind fun bt315 => (if bt315.1 < 0 then (laws_FnExactDoActs.j1 kj19 l1 t290 true l0_0 t287 t299) else ((laws_eqDisk.f kj19 t299 t287).bind fun t317 => (if t317 = true then (laws_FnExactDoActs.j1 kj19 l1 t290 (t302 != t290) l0_0 t287 t299) else (laws_FnExactDoActs.j1 kj19 l1 t290 true l0_0 t287 t299)))))) = some r:=by rw [if_pos rfl] at H;exact H
        clear H
        have H:=H1
        clear H1
        replace H:=Option.bind_eq_some_iff.mp H
        obtain ⟨⟨t313,t314⟩,A770,H⟩:=H
        replace H : ((laws_markActS.f kj19 t296 t313).bind fun bt315 => (if bt315.1 < 0 then (laws_FnExactDoActs.j1 kj19 l1 t290 true l0_0 t287 t299) else ((laws_eqDisk.f kj19 t299 t287).bind fun t317 => (if t317 = true then (laws_FnExactDoActs.j1 kj19 l1 t290 (t302 != t290) l0_0 t287 t299) else (laws_FnExactDoActs.j1 kj19 l1 t290 true l0_0 t287 t299))))) = some r:=H
        have A77:=Aside0.mk A770
        clear A770
        replace H:=Option.bind_eq_some_iff.mp H
        obtain ⟨⟨t315,t316⟩,A780,H⟩:=H
        replace H : (if t315 < 0 then (laws_FnExactDoActs.j1 kj19 l1 t290 true l0_0 t287 t299) else ((laws_eqDisk.f kj19 t299 t287).bind fun t317 => (if t317 = true then (laws_FnExactDoActs.j1 kj19 l1 t290 (t302 != t290) l0_0 t287 t299) else (laws_FnExactDoActs.j1 kj19 l1 t290 true l0_0 t287 t299)))) = some r:=H
        have A78:=Aside0.mk A780
        clear A780
        have HC79:=Aside0.mk H
        clear H
        try go_wp2
        have n0_:=Aside0.mk (Kd.R_drew HO_9.out)
        have n1_:=Aside0.mk (Kd.R_drew HO_292000.out)
        have n2_:=Aside0.mk (Kd.R_drew HO_296000.out)
        have n3_:=Aside0.mk (Kd.R_drew HO_304000.out)
        have n4_:=Aside0.mk (blk_drew BK278.out)
        have n5_:=Aside0.mk (blk_drew BK291.out)
        have n6_:=Aside0.mk (blk_drew BK295.out)
        have n7_:=Aside0.mk (blk_drew BK303.out)
        have n8_:=Aside0.mk (below_drew1 HB.out)
        clear HO_9
        clear HO_292000
        clear HO_296000
        clear HO_304000
        clear BK278
        clear BK291
        clear BK295
        clear BK303
        clear HB
        have HO_9:=n0_
        have HO_292000:=n1_
        have HO_296000:=n2_
        have HO_304000:=n3_
        have BK278:=n4_
        have BK291:=n5_
        have BK295:=n6_
        have BK303:=n7_
        have HB:=n8_
        clear n0_ n1_ n2_ n3_ n4_ n5_ n6_ n7_ n8_
        refine start_ (n:=5) (S:=fun w' => w'.cell? ⟨gb295,0,none⟩ = some (.slice Ao38 t292.length co38) ∧ w'.cell? ⟨gb278,0,none⟩ = some (.slice A0_0 l0_0.length c0_0)) (ds:=[]) (zF0 5 0) (by kernel_rfl) rfl rfl ⟨(blk_cell BK295.out 0).trans rfl,(blk_cell BK278.out 0).trans rfl⟩ (fun hHeld => ?_)
        generalize wc.drew = w80 at HO_9 HO_292000 HO_296000 HO_304000 BK278 BK291 BK295 BK303 HB hHeld ⊢
        refine take_ (i:=0) (N:=some 54) (v:=?_) (a':=?_) (zF0 5 1) rfl rfl (by kernel_rfl) (fun _ _ _ h => h) (Or.inl ⟨by rfl,?_⟩) hHeld ?_ ?_;rotate_left
        ·rintro w' ⟨s0,s1⟩
         go_simp
         with_reducible rfl
        rotate_left
        ·simp only [Act.put,qA0,qB0,qC0,i64_w,i32_w];rfl
        refine take_ (i:=1) (N:=some 55) (v:=?_) (a':=?_) (zF0 5 3) rfl rfl (by kernel_rfl) (fun _ _ _ h => h) (Or.inl ⟨by rfl,?_⟩) hHeld ?_ ?_;rotate_left
        ·rintro w' ⟨s0,s1⟩
         go_simp
         with_reducible rfl
        rotate_left
        ·simp only [Act.put,qA0,qB0,qC0,i64_w,i32_w];rfl
        refine one_ (i:=2) (N:=some 56) (zF0 5 7) rfl rfl (by kernel_rfl) (by decide) (fun K hK => ?_)
        refine goes_ Try.func16 (by kernel_rfl) rfl #[.agg #[.slice A0_0 l0_0.length c0_0]] (by rfl) rfl rfl zM0 ?_
        with_reducible refine (laws_toDisk.calls kj19 _ _ l0_0 t305 _ ?side1 ?side2 A71.out).mono ?_
        (case side1 => repeat (first | exact (Kd.C_below HR0_0.out HB.out) | (with_reducible refine Kd.C_alloc ?_ _) | (with_reducible refine Kd.C_drewN ?_ _) | (with_reducible refine Kd.C_drew ?_)))
        (case side2 => exact HC0_0.out)
        rintro e w81 ⟨v306,rfl,ho0,hb⟩
        refine ⟨_,rfl,?_⟩
        have n0_:=Aside0.mk (Kd.R_below (zR0 HO_9.out) hb)
        have n1_:=Aside0.mk (Kd.R_elder' (zR0 HO_292000.out) (Kd.R_base ho0) hb)
        have n2_:=Aside0.mk (Kd.R_elder' (zR0 HO_296000.out) (Kd.R_base ho0) hb)
        have n3_:=Aside0.mk (Kd.R_elder' (zR0 HO_304000.out) (Kd.R_base ho0) hb)
        have n4_:=Aside0.mk (Kd.R_lower (Kd.R_new' (Kd.R_new' (Kd.R_new' ho0 (Kd.R_lt (zR0 HO_292000.out))) (Kd.R_lt (zR0 HO_296000.out))) (Kd.R_lt (zR0 HO_304000.out))) (zZ0 HB.out))
        have n5_:=Aside0.mk (zB0 BK278.out hb)
        have n6_:=Aside0.mk (zB0 BK291.out hb)
        have n7_:=Aside0.mk (zB0 BK295.out hb)
        have n8_:=Aside0.mk (zB0 BK303.out hb)
        have n9_:=Aside0.mk (zS0 HB.out hb)
        clear HO_9
        clear HO_292000
        clear HO_296000
        clear HO_304000
        clear BK278
        clear BK291
        clear BK295
        clear BK303
        clear HB
        have HO_9:=n0_
        have HO_292000:=n1_
        have HO_296000:=n2_
        have HO_304000:=n3_
        have HO307:=n4_
        have BK278:=n5_
        have BK291:=n6_
        have BK295:=n7_
        have BK303:=n8_
        have HB:=n9_
        clear n0_ n1_ n2_ n3_ n4_ n5_ n6_ n7_ n8_ n9_
        (try clear hb)
        (try clear hb2)
        (try clear hk)
        (try clear hi)
        (try clear ho0)
        obtain ⟨Ao82,co82,eo82⟩:=Kd.R_slice HO307.out
        (first | subst eo82 | (injection eo82 with f1_ f2_ f3_;have f4_:=f1_.symm;have f5_:=f3_.symm;clear f1_ f2_ f3_;subst f4_;subst f5_))
        refine hK.out _ _ ⟨(blk_cell BK295.out 0).trans rfl,(blk_cell BK278.out 0).trans rfl⟩ (fun hHeld => ?_)
        clear hK K
        refine norm_ (a':=?_) ?_ ?_;rotate_left
        ·show Act.put _ (some 56) _ = _;simp only [Act.put,qA0,qB0,qC0,i64_w,i32_w];rfl
        refine one_ (i:=3) (N:=some 57) (zF0 5 15) rfl rfl (by kernel_rfl) (by decide) (fun K hK => ?_)
        refine goes_ Try.func18 (by kernel_rfl) rfl #[.agg #[.slice Ao38 t292.length co38],.agg #[.slice Ao82 t305.length co82]] (by rfl) rfl rfl zM0 ?_
        with_reducible refine (laws_eqDisk.calls kj19 _ _ t292 _ _ t305 true _ ?side1 ?side2 ?side3 ?side4 A72.out).mono ?_
        (case side1 => repeat (first | exact (Kd.R_reads' HO_296000.out).2.2 | (with_reducible refine Kd.C_alloc ?_ _) | (with_reducible refine Kd.C_drewN ?_ _) | (with_reducible refine Kd.C_drew ?_)))
        (case side2 => exact (Kd.R_reads' HO_296000.out).2.1)
        (case side3 => repeat (first | exact (Kd.R_reads' HO307.out).2.2 | (with_reducible refine Kd.C_alloc ?_ _) | (with_reducible refine Kd.C_drewN ?_ _) | (with_reducible refine Kd.C_drew ?_)))
        (case side4 => exact (Kd.R_reads' HO307.out).2.1)
        rintro e w83 ⟨rfl,hb⟩
        refine ⟨_,rfl,?_⟩
        have n0_:=Aside0.mk (Kd.R_below (zR0 HO_9.out) hb)
        have n1_:=Aside0.mk (Kd.R_below (zR0 HO_292000.out) hb)
        have n2_:=Aside0.mk (Kd.R_below (zR0 HO_296000.out) hb)
        have n3_:=Aside0.mk (Kd.R_below (zR0 HO_304000.out) hb)
        have n4_:=Aside0.mk (Kd.R_below (zR0 HO307.out) hb)
        have n5_:=Aside0.mk (zB0 BK278.out hb)
        have n6_:=Aside0.mk (zB0 BK291.out hb)
        have n7_:=Aside0.mk (zB0 BK295.out hb)
        have n8_:=Aside0.mk (zB0 BK303.out hb)
        have n9_:=Aside0.mk (zS0 HB.out hb)
        clear HO_9
        clear HO_292000
        clear HO_296000
        clear HO_304000
        clear HO307
        clear BK278
        clear BK291
        clear BK295
        clear BK303
        clear HB
        have HO_9:=n0_
        have HO_292000:=n1_
        have HO_296000:=n2_
        have HO_304000:=n3_
        have HO307:=n4_
        have BK278:=n5_
        have BK291:=n6_
        have BK295:=n7_
        have BK303:=n8_
        have HB:=n9_
        clear n0_ n1_ n2_ n3_ n4_ n5_ n6_ n7_ n8_ n9_
        (try clear hb)
        (try clear hb2)
        (try clear hk)
        (try clear hi)
        refine hK.out _ _ ⟨(blk_cell BK295.out 0).trans rfl,(blk_cell BK278.out 0).trans rfl⟩ (fun hHeld => ?_)
        clear hK K
        refine norm_ (a':=?_) ?_ ?_;rotate_left
        ·show Act.put _ (some 57) _ = _;simp only [Act.put,qA0,qB0,qC0,i64_w,i32_w];rfl
        refine pure_ (i:=4) (N:=some 58) (v:=?_) (a':=?_) (zF0 5 31) rfl rfl (by kernel_rfl) (fun _ _ _ h => h) (Or.inl ⟨by rfl,?_⟩) ?_ ?_;rotate_left
        ·intro w';go_simp;with_reducible rfl
        rotate_left
        ·simp only [Act.put,qA0,qB0,qC0,i64_w,i32_w];rfl
        refine done_ (by kernel_rfl) ?_
        go_upto_region 21 with (first | ((with_reducible refine gate_callee (f:=41) rfl ?_);refine goesL_ (some 61) rfl rfl Try.func41 (by kernel_rfl) rfl #[.slice A1 l1.length c1] rfl zM0 ?_;(with_reducible refine (laws_toActS.calls kj19 _ _ l1 t309 _ ?side1 ?side2 A74.out).mono ?_);(case side1 => repeat (first | exact (Kd.C_below HR1.out HB.out) | (with_reducible refine Kd.C_alloc ?_ _) | (with_reducible refine Kd.C_drewN ?_ _) | (with_reducible refine Kd.C_drew ?_)));(case side2 => exact HC1.out);rintro e w84 ⟨v310,rfl,ho0,hb⟩;refine ⟨_,rfl,?_⟩;have n0_:=Aside0.mk (Kd.R_elder' (zR0 HO_9.out) (Kd.R_base ho0) hb);have n1_:=Aside0.mk (Kd.R_below (zR0 HO_292000.out) hb);have n2_:=Aside0.mk (Kd.R_below (zR0 HO_296000.out) hb);have n3_:=Aside0.mk (Kd.R_below (zR0 HO_304000.out) hb);have n4_:=Aside0.mk (Kd.R_below (zR0 HO307.out) hb);have n5_:=Aside0.mk (Kd.R_lower (Kd.R_new' ho0 (Kd.R_lt (zR0 HO_9.out))) (zZ0 HB.out));have n6_:=Aside0.mk (zB0 BK278.out hb);have n7_:=Aside0.mk (zB0 BK291.out hb);have n8_:=Aside0.mk (zB0 BK295.out hb);have n9_:=Aside0.mk (zB0 BK303.out hb);have n10_:=Aside0.mk (zS0 HB.out hb);clear HO_9;clear HO_292000;clear HO_296000;clear HO_304000;clear HO307;clear BK278;clear BK291;clear BK295;clear BK303;clear HB;have HO_9:=n0_;have HO_292000:=n1_;have HO_296000:=n2_;have HO_304000:=n3_;have HO307:=n4_;have HO311:=n5_;have BK278:=n6_;have BK291:=n7_;have BK295:=n8_;have BK303:=n9_;have HB:=n10_;clear n0_ n1_ n2_ n3_ n4_ n5_ n6_ n7_ n8_ n9_ n10_;(try clear hb);(try clear hb2);(try clear hk);(try clear hi);(try clear ho0);obtain ⟨Ao85,co85,eo85⟩:=Kd.R_slice HO311.out;subst eo85) | ((with_reducible refine gate_callee (f:=43) rfl ?_);refine goesL_ (some 62) rfl rfl Try.func43 (by kernel_rfl) rfl #[.slice Ao44 t296.length co44,.slice Ao85 t309.length co85] rfl zM0 ?_;(with_reducible refine (laws_eqActS.calls kj19 _ _ t296 _ _ t309 true _ ?side1 ?side2 ?side3 ?side4 A75.out).mono ?_);(case side1 => repeat (first | exact (Kd.R_reads' HO_9.out).2.2 | (with_reducible refine Kd.C_alloc ?_ _) | (with_reducible refine Kd.C_drewN ?_ _) | (with_reducible refine Kd.C_drew ?_)));(case side2 => exact (Kd.R_reads' HO_9.out).2.1);(case side3 => repeat (first | exact (Kd.R_reads' HO311.out).2.2 | (with_reducible refine Kd.C_alloc ?_ _) | (with_reducible refine Kd.C_drewN ?_ _) | (with_reducible refine Kd.C_drew ?_)));(case side4 => exact (Kd.R_reads' HO311.out).2.1);rintro e w86 ⟨rfl,hb⟩;refine ⟨_,rfl,?_⟩;have n0_:=Aside0.mk (Kd.R_below (zR0 HO_9.out) hb);have n1_:=Aside0.mk (Kd.R_below (zR0 HO_292000.out) hb);have n2_:=Aside0.mk (Kd.R_below (zR0 HO_296000.out) hb);have n3_:=Aside0.mk (Kd.R_below (zR0 HO_304000.out) hb);have n4_:=Aside0.mk (Kd.R_below (zR0 HO307.out) hb);have n5_:=Aside0.mk (Kd.R_below (zR0 HO311.out) hb);have n6_:=Aside0.mk (zB0 BK278.out hb);have n7_:=Aside0.mk (zB0 BK291.out hb);have n8_:=Aside0.mk (zB0 BK295.out hb);have n9_:=Aside0.mk (zB0 BK303.out hb);have n10_:=Aside0.mk (zS0 HB.out hb);clear HO_9;clear HO_292000;clear HO_296000;clear HO_304000;clear HO307;clear HO311;clear BK278;clear BK291;clear BK295;clear BK303;clear HB;have HO_9:=n0_;have HO_292000:=n1_;have HO_296000:=n2_;have HO_304000:=n3_;have HO307:=n4_;have HO311:=n5_;have BK278:=n6_;have BK291:=n7_;have BK295:=n8_;have BK303:=n9_;have HB:=n10_;clear n0_ n1_ n2_ n3_ n4_ n5_ n6_ n7_ n8_ n9_ n10_;(try clear hb);(try clear hb2);(try clear hk);(try clear hi);have hnb87:=NB295_278.out;have hnc87:=NB278_295.out;have hnb88:=NB295_291.out;have hnc88:=NB291_295.out;have hnb89:=NB295_303.out;have hnc89:=NB303_295.out;have hcz90_0 : w86.cell? ⟨gb295,0,none⟩ = some (.slice Ao38 t292.length co38):=(blk_cell BK295.out 0).trans rfl;have hfz90_0:=blk_frozen BK295.out 0) | ((with_reducible refine gate_callee (f:=32) rfl ?_);refine goesL_ (some 66) rfl rfl Try.func32 (by kernel_rfl) rfl #[.agg #[.slice Ao38 t292.length co38],.int .i64 1] rfl zM0 ?_;(with_reducible refine (laws_markDisk.calls kj19 (fun k_ => some k_ = (.slice Ao38 t292.length co38 : Value).ownBlock) (.slice Ao38 t292.length co38) t292 1 t313 t314 w _ ?side1 ?side2 A77.out).mono ?_);(case side1 => repeat (first | (with_reducible first | exact HB.out | apply below_alloc | apply pw_below_drewN | apply below_drew1 | refine below_set ?_ GE278.out | refine below_set ?_ GE291.out | refine below_set ?_ GE295.out | refine below_set ?_ GE303.out) | exact HB.out));(case side2 => exact Kd.R_tight rfl HO_296000.out);rintro e w91 ⟨rfl,hy0,hb,hkp⟩;refine ⟨_,rfl,?_⟩;have n0_:=Aside0.mk (Kd.R_mono (ok':=fun k_ => some k_ ≠ (.slice Ao85 t309.length co85 : Value).ownBlock) (Kd.R_keptB ((Kd.R_apart' HO_9.out (Kd.R_typed HO_296000.out) (by decide))) hkp (fun k_ hk_ hs_ => (hk_.2) hs_)) (fun k_ hk_ => hk_.1.1.2));have n1_:=Aside0.mk (Kd.R_mono (ok':=fun k_ => some k_ ≠ (.slice Ao38 t292.length co38 : Value).ownBlock ∧ some k_ ≠ (.slice Ao47 t299.length co47 : Value).ownBlock ∧ some k_ ≠ (.slice Ao82 t305.length co82 : Value).ownBlock) (Kd.R_keptB (HO_292000.out) hkp (fun k_ hk_ hs_ => (hk_.1.1) hs_)) (fun k_ hk_ => ⟨hk_.1.1.1,hk_.1.1.2,hk_.1.2⟩));have n2_:=Aside0.mk (Kd.R_reok rfl hy0 (fun k_ e_ => HO_296000.out.1 k_ e_));have n3_:=Aside0.mk (Kd.R_mono (ok':=fun k_ => some k_ ≠ (.slice Ao32 t287.length co32 : Value).ownBlock ∧ some k_ ≠ (.slice Ao38 t292.length co38 : Value).ownBlock ∧ some k_ ≠ (.slice Ao82 t305.length co82 : Value).ownBlock) (Kd.R_keptB (HO_304000.out) hkp (fun k_ hk_ hs_ => (hk_.1.2) hs_)) (fun k_ hk_ => ⟨hk_.1.1.1,hk_.1.1.2,hk_.1.2⟩));have n4_:=Aside0.mk (blk_kept (zK0 BK278.out) hkp (fun hs_ => (fun e_ => (Kd.R_ne HO_296000.out BK278.out (by decide)) e_) hs_));have n5_:=Aside0.mk (blk_kept (zK0 BK291.out) hkp (fun hs_ => (fun e_ => (Kd.R_ne HO_296000.out BK291.out (by decide)) e_) hs_));have n6_:=Aside0.mk (blk_kept (zK0 BK295.out) hkp (fun hs_ => (fun e_ => (Kd.R_ne HO_296000.out BK295.out (by decide)) e_) hs_));have n7_:=Aside0.mk (blk_kept (zK0 BK303.out) hkp (fun hs_ => (fun e_ => (Kd.R_ne HO_296000.out BK303.out (by decide)) e_) hs_));have n8_:=Aside0.mk (Kd.R_mono (ok':=fun k_ => some k_ ≠ (.slice Ao32 t287.length co32 : Value).ownBlock ∧ some k_ ≠ (.slice Ao38 t292.length co38 : Value).ownBlock ∧ some k_ ≠ (.slice Ao47 t299.length co47 : Value).ownBlock) (Kd.R_keptB (HO307.out) hkp (fun k_ hk_ hs_ => (hk_.1.2) hs_)) (fun k_ hk_ => ⟨hk_.1.1.1.2,hk_.1.1.2,hk_.1.2⟩));have n9_:=Aside0.mk (Kd.R_mono (ok':=fun k_ => some k_ ≠ (.slice Ao44 t296.length co44 : Value).ownBlock) (Kd.R_keptB ((Kd.R_apart' HO311.out (Kd.R_typed HO_296000.out) (by decide))) hkp (fun k_ hk_ hs_ => (hk_.2) hs_)) (fun k_ hk_ => hk_.1.1.2));have n10_:=Aside0.mk (hb);clear HO_9;clear HO_292000;clear HO_296000;clear HO_304000;clear BK278;clear BK291;clear BK295;clear BK303;clear HO307;clear HO311;clear HB;have HO_9:=n0_;have HO_292000:=n1_;have HO_296000:=n2_;have HO_304000:=n3_;have BK278:=n4_;have BK291:=n5_;have BK295:=n6_;have BK303:=n7_;have HO307:=n8_;have HO311:=n9_;have HB:=n10_;clear n0_ n1_ n2_ n3_ n4_ n5_ n6_ n7_ n8_ n9_ n10_;(try clear hb);(try clear hkp);(try clear hy0)) | ((with_reducible refine gate_callee (f:=44) rfl ?_);refine goesL_ (some 69) rfl rfl Try.func44 (by kernel_rfl) rfl #[.slice Ao44 t296.length co44,.int .i64 t313] rfl zM0 ?_;(with_reducible refine (laws_markActS.calls kj19 (fun k_ => some k_ = (.slice Ao44 t296.length co44 : Value).ownBlock) (.slice Ao44 t296.length co44) t296 t313 t315 t316 w _ ?side1 ?side2 A78.out).mono ?_);(case side1 => repeat (first | (with_reducible first | exact HB.out | apply below_alloc | apply pw_below_drewN | apply below_drew1 | refine below_set ?_ GE278.out | refine below_set ?_ GE291.out | refine below_set ?_ GE295.out | refine below_set ?_ GE303.out) | exact HB.out));(case side2 => exact Kd.R_tight rfl HO_9.out);rintro e w92 ⟨rfl,hy0,hb,hkp⟩;refine ⟨_,rfl,?_⟩;have n0_:=Aside0.mk (Kd.R_reok rfl hy0 (fun k_ e_ => HO_9.out.1 k_ e_));have n1_:=Aside0.mk (Kd.R_mono (ok':=fun k_ => some k_ ≠ (.slice Ao38 t292.length co38 : Value).ownBlock ∧ some k_ ≠ (.slice Ao47 t299.length co47 : Value).ownBlock ∧ some k_ ≠ (.slice Ao82 t305.length co82 : Value).ownBlock) (Kd.R_keptB ((Kd.R_apart' HO_292000.out (Kd.R_typed HO_9.out) (by decide))) hkp (fun k_ hk_ hs_ => (hk_.2) hs_)) (fun k_ hk_ => ⟨hk_.1.1.1,hk_.1.1.2.1,hk_.1.1.2.2⟩));have n2_:=Aside0.mk (Kd.R_mono (ok':=fun k_ => some k_ ≠ (.slice Ao32 t287.length co32 : Value).ownBlock ∧ some k_ ≠ (.slice Ao47 t299.length co47 : Value).ownBlock ∧ some k_ ≠ (.slice Ao82 t305.length co82 : Value).ownBlock) (Kd.R_keptB ((Kd.R_apart' HO_296000.out (Kd.R_typed HO_9.out) (by decide))) hkp (fun k_ hk_ hs_ => (hk_.2) hs_)) (fun k_ hk_ => ⟨hk_.1.1.1.1,hk_.1.1.1.2,hk_.1.1.2⟩));have n3_:=Aside0.mk (Kd.R_mono (ok':=fun k_ => some k_ ≠ (.slice Ao32 t287.length co32 : Value).ownBlock ∧ some k_ ≠ (.slice Ao38 t292.length co38 : Value).ownBlock ∧ some k_ ≠ (.slice Ao82 t305.length co82 : Value).ownBlock) (Kd.R_keptB ((Kd.R_apart' HO_304000.out (Kd.R_typed HO_9.out) (by decide))) hkp (fun k_ hk_ hs_ => (hk_.2) hs_)) (fun k_ hk_ => ⟨hk_.1.1.1,hk_.1.1.2.1,hk_.1.1.2.2⟩));have n4_:=Aside0.mk (blk_kept (zK0 BK278.out) hkp (fun hs_ => (fun e_ => (Kd.R_ne HO_9.out BK278.out (by decide)) e_) hs_));have n5_:=Aside0.mk (blk_kept (zK0 BK291.out) hkp (fun hs_ => (fun e_ => (Kd.R_ne HO_9.out BK291.out (by decide)) e_) hs_));have n6_:=Aside0.mk (blk_kept (zK0 BK295.out) hkp (fun hs_ => (fun e_ => (Kd.R_ne HO_9.out BK295.out (by decide)) e_) hs_));have n7_:=Aside0.mk (blk_kept (zK0 BK303.out) hkp (fun hs_ => (fun e_ => (Kd.R_ne HO_9.out BK303.out (by decide)) e_) hs_));have n8_:=Aside0.mk (Kd.R_mono (ok':=fun k_ => some k_ ≠ (.slice Ao32 t287.length co32 : Value).ownBlock ∧ some k_ ≠ (.slice Ao38 t292.length co38 : Value).ownBlock ∧ some k_ ≠ (.slice Ao47 t299.length co47 : Value).ownBlock) (Kd.R_keptB ((Kd.R_apart' HO307.out (Kd.R_typed HO_9.out) (by decide))) hkp (fun k_ hk_ hs_ => (hk_.2) hs_)) (fun k_ hk_ => ⟨hk_.1.1.1,hk_.1.1.2.1,hk_.1.1.2.2⟩));have n9_:=Aside0.mk (Kd.R_mono (ok':=fun k_ => some k_ ≠ (.slice Ao44 t296.length co44 : Value).ownBlock) (Kd.R_keptB (HO311.out) hkp (fun k_ hk_ hs_ => (hk_) hs_)) (fun k_ hk_ => hk_.1));have n10_:=Aside0.mk (hb);clear HO_9;clear HO_292000;clear HO_296000;clear HO_304000;clear BK278;clear BK291;clear BK295;clear BK303;clear HO307;clear HO311;clear HB;have HO_9:=n0_;have HO_292000:=n1_;have HO_296000:=n2_;have HO_304000:=n3_;have BK278:=n4_;have BK291:=n5_;have BK295:=n6_;have BK303:=n7_;have HO307:=n8_;have HO311:=n9_;have HB:=n10_;clear n0_ n1_ n2_ n3_ n4_ n5_ n6_ n7_ n8_ n9_ n10_;(try clear hb);(try clear hkp);(try clear hy0)))
        (try simp only [Act.put,qA0,qB0,qC0])
        go_cut [82] (fun v82 wc => ∃ (kq : Nat) (x82_78 : Bool),v82 = .bool x82_78 ∧ Aside0 (laws_FnExactDoActs.j1 kq l1 t290 x82_78 l0_0 t287 t299 = some r) ∧ Aside0 (kq ≤ kj19) ∧ Aside0 (Kd.R k45 45 wc w.heap.size (fun k_ => some k_ ≠ ((.slice Ao38 t292.length co38) : Value).ownBlock ∧ some k_ ≠ ((.slice Ao47 t299.length co47) : Value).ownBlock) (.slice Ao32 t287.length co32) t287) ∧ Aside0 (Kd.R k45 45 wc w.heap.size (fun k_ => some k_ ≠ ((.slice Ao32 t287.length co32) : Value).ownBlock ∧ some k_ ≠ ((.slice Ao47 t299.length co47) : Value).ownBlock) (.slice Ao38 t292.length co38) t314) ∧ Aside0 (Kd.R k45 45 wc w.heap.size (fun k_ => some k_ ≠ ((.slice Ao32 t287.length co32) : Value).ownBlock ∧ some k_ ≠ ((.slice Ao38 t292.length co38) : Value).ownBlock) (.slice Ao47 t299.length co47) t299) ∧ Aside0 (wc.heap[gb278]? = some (.cells #[(.slice A0_0 l0_0.length c0_0)] 24 (0,0))) ∧ Aside0 (wc.heap[gb291]? = some (.cells #[(.slice Ao32 t287.length co32)] 30 (0,0))) ∧ Aside0 (wc.heap[gb295]? = some (.cells #[(.slice Ao38 t292.length co38)] 30 (0,0))) ∧ Aside0 (wc.heap[gb303]? = some (.cells #[(.slice Ao47 t299.length co47)] 30 (0,0))) ∧ Aside0 (Below w.heap.size w wc))
        case first =>
         have H:=HC79.out
         clear HC79
         by_cases c93 : t315 < 0
         ·rw [if_pos c93] at H
          exact absurd (H.trans (congrArg some hrt)) (by first | simp | (cases kj19 <;> simp [laws_FnExactDoActs.j0,laws_FnExactDoActs.j1,laws_FnExactDoActs.j2]) | (cases k <;> simp [laws_FnExactDoActs.j0,laws_FnExactDoActs.j1,laws_FnExactDoActs.j2]))
         ·rw [if_neg c93] at H
          have c93b0 : decide (t315 < 0) = false:=decide_eq_false c93
          clear c93
          (first | rw [c93b0] | (simp only [i64_w,i32_w];rw [c93b0]) | skip)
          replace H:=Option.bind_eq_some_iff.mp H
          obtain ⟨t317,A940,H⟩:=H
          replace H : (if t317 = true then (laws_FnExactDoActs.j1 kj19 l1 t290 (t302 != t290) l0_0 t287 t299) else (laws_FnExactDoActs.j1 kj19 l1 t290 true l0_0 t287 t299)) = some r:=H
          have A94:=Aside0.mk A940
          clear A940
          by_cases c95 : t317 = true
          ·subst c95
           have H1 : (laws_FnExactDoActs.j1 kj19 l1 t290 (t302 != t290) l0_0 t287 t299) = some r:=by rw [if_pos rfl] at H;exact H
           clear H
           have H:=H1
           clear H1
           have H':=Aside0.mk H
           clear H
           have hnb96:=NB303_278.out
           have hnc96:=NB278_303.out
           have hnb97:=NB303_291.out
           have hnc97:=NB291_303.out
           have hnb98:=NB303_295.out
           have hnc98:=NB295_303.out
           have hcz99_0 : w92.cell? ⟨gb303,0,none⟩ = some (.slice Ao47 t299.length co47):=(blk_cell BK303.out 0).trans rfl
           have hfz99_0:=blk_frozen BK303.out 0
           have hnb100:=NB291_278.out
           have hnc100:=NB278_291.out
           have hnb101:=NB291_295.out
           have hnc101:=NB295_291.out
           have hcz102_0 : w92.cell? ⟨gb291,0,none⟩ = some (.slice Ao32 t287.length co32):=(blk_cell BK291.out 0).trans rfl
           have hfz102_0:=blk_frozen BK291.out 0
           go_wp2_with (first | (go_at_call 18;(with_reducible refine (laws_eqDisk.calls kj19 _ _ t299 _ _ t287 true _ ?side1 ?side2 ?side3 ?side4 A94.out).mono ?_);(case side1 => repeat (first | exact (Kd.R_reads' HO_304000.out).2.2 | (with_reducible refine Kd.C_alloc ?_ _) | (with_reducible refine Kd.C_drewN ?_ _) | (with_reducible refine Kd.C_drew ?_)));(case side2 => exact (Kd.R_reads' HO_304000.out).2.1);(case side3 => repeat (first | exact (Kd.R_reads' HO_292000.out).2.2 | (with_reducible refine Kd.C_alloc ?_ _) | (with_reducible refine Kd.C_drewN ?_ _) | (with_reducible refine Kd.C_drew ?_)));(case side4 => exact (Kd.R_reads' HO_292000.out).2.1);rintro e w103 ⟨rfl,hb⟩;have n0_:=Aside0.mk (Kd.R_below (zR0 HO_9.out) hb);have n1_:=Aside0.mk (Kd.R_below (zR0 HO_292000.out) hb);have n2_:=Aside0.mk (Kd.R_below (zR0 HO_296000.out) hb);have n3_:=Aside0.mk (Kd.R_below (zR0 HO_304000.out) hb);have n4_:=Aside0.mk (Kd.R_below (zR0 HO307.out) hb);have n5_:=Aside0.mk (Kd.R_below (zR0 HO311.out) hb);have n6_:=Aside0.mk (zB0 BK278.out hb);have n7_:=Aside0.mk (zB0 BK291.out hb);have n8_:=Aside0.mk (zB0 BK295.out hb);have n9_:=Aside0.mk (zB0 BK303.out hb);have n10_:=Aside0.mk (zS0 HB.out hb);clear HO_9;clear HO_292000;clear HO_296000;clear HO_304000;clear HO307;clear HO311;clear BK278;clear BK291;clear BK295;clear BK303;clear HB;have HO_9:=n0_;have HO_292000:=n1_;have HO_296000:=n2_;have HO_304000:=n3_;have HO307:=n4_;have HO311:=n5_;have BK278:=n6_;have BK291:=n7_;have BK295:=n8_;have BK303:=n9_;have HB:=n10_;clear n0_ n1_ n2_ n3_ n4_ n5_ n6_ n7_ n8_ n9_ n10_;(try clear hb);(try clear hb2);(try clear hk);(try clear hi)))
           go_meet
           case rel => exact ⟨_,((t302 != t290)),(by first | rfl | (simp;done) | (simp [*];done)),H',⟨by have:=HJ19.out;first | omega | exact Nat.le_refl _⟩,⟨by refine zV0 ?_;exact Kd.R_mono HO_292000.out (fun _ hk => ⟨hk.1,hk.2.1⟩)⟩,⟨by refine zV0 ?_;exact Kd.R_mono HO_296000.out (fun _ hk => ⟨hk.1,hk.2.1⟩)⟩,⟨by refine zV0 ?_;exact Kd.R_mono HO_304000.out (fun _ hk => ⟨hk.1,hk.2.1⟩)⟩,⟨zK0 BK278.out⟩,⟨zK0 BK291.out⟩,⟨zK0 BK295.out⟩,⟨zK0 BK303.out⟩,⟨zY0 HB.out⟩⟩
          ·replace c95:=Bool.eq_false_iff.mpr c95
           subst c95
           have H1 : (laws_FnExactDoActs.j1 kj19 l1 t290 true l0_0 t287 t299) = some r:=by rw [if_neg (show ¬ (false = true) by decide)] at H;exact H
           exact absurd (H1.trans (congrArg some hrt)) (by first | simp | (cases kj19 <;> simp [laws_FnExactDoActs.j0,laws_FnExactDoActs.j1,laws_FnExactDoActs.j2]) | (cases k <;> simp [laws_FnExactDoActs.j0,laws_FnExactDoActs.j1,laws_FnExactDoActs.j2]))
        case rest =>
         clear HC79
         try clear c1
         try clear p2
         try clear c3
         try clear c4
         try clear c4b0
         try clear c5
         try clear c6
         try clear c7
         try clear c8
         try clear c9
         try clear c9b0
         try clear c10
         try clear c14
         try clear c16
         try clear c18
         try clear c32
         try clear c33
         try clear c39
         try clear c40
         try clear c41
         try clear c42
         try clear c43
         try clear c44
         try clear c48
         try clear c49
         try clear c50
         try clear c53
         try clear c54
         try clear c55
         try clear c56
         try clear c58
         try clear c59
         try clear c62
         try clear c63
         try clear c64
         try clear c66
         try clear c67
         try clear c70
         try clear c73
         try clear c76
         try clear c87
         try clear c88
         try clear c89
         try clear c93
         try clear c93b0
         try clear c95
         try clear c96
         try clear c97
         try clear c98
         try clear c100
         try clear c101
         try clear c104
         try clear c105
         try clear c106
         try clear c108
         try clear c109
         try clear hcz102_0
         try clear hcz107_0
         try clear hcz110_0
         try clear hcz11_0
         try clear hcz22_0
         try clear hcz25_0
         try clear hcz34_0
         try clear hcz35_0
         try clear hcz41_0
         try clear hcz43_0
         try clear hcz51_0
         try clear hcz57_0
         try clear hcz60_0
         try clear hcz65_0
         try clear hcz68_0
         try clear hcz6_0
         try clear hcz90_0
         try clear hcz99_0
         try clear hfz102_0
         try clear hfz107_0
         try clear hfz110_0
         try clear hfz11_0
         try clear hfz22_0
         try clear hfz25_0
         try clear hfz34_0
         try clear hfz35_0
         try clear hfz41_0
         try clear hfz43_0
         try clear hfz51_0
         try clear hfz57_0
         try clear hfz60_0
         try clear hfz65_0
         try clear hfz68_0
         try clear hfz6_0
         try clear hfz90_0
         try clear hfz99_0
         try clear p2
         obtain ⟨kq,x82_78,rfl,HA,HJ78,HO_292000,HO_296000,HO_304000,BK278,BK291,BK295,BK303,HB⟩:=hcut
         have hl296000_78:=(Kd.R_reads' HO_296000.out).1
         rw [hl296000_78] at HO_296000
         (try simp only [hl296000_78])
         (try simp only [hl296000_78] at BK278)
         (try simp only [hl296000_78] at BK291)
         (try simp only [hl296000_78] at BK295)
         (try simp only [hl296000_78] at BK303)
         (try simp only [hl296000_78] at HO_292000)
         (try simp only [hl296000_78] at HO_304000)
         cases kq with
         | zero => exact absurd HA.out (by simp [laws_FnExactDoActs.j1])
         | succ kj78 =>
          have H:=HA.out
          clear HA
          simp only [laws_FnExactDoActs.j1] at H
          by_cases c112 : x82_78 = true
          ·subst c112
           have H1 : (some false) = some r:=by rw [if_pos rfl] at H;exact H
           exact absurd (H1.trans (congrArg some hrt)) (by first | simp | (cases kj78 <;> simp [laws_FnExactDoActs.j0,laws_FnExactDoActs.j1,laws_FnExactDoActs.j2]) | (cases kj19 <;> simp [laws_FnExactDoActs.j0,laws_FnExactDoActs.j1,laws_FnExactDoActs.j2]) | (cases k <;> simp [laws_FnExactDoActs.j0,laws_FnExactDoActs.j1,laws_FnExactDoActs.j2]))
          ·replace c112:=Bool.eq_false_iff.mpr c112
           subst c112
           have H1 : ((laws_markDisk.f kj78 t299 1).bind fun bt318 => ((laws_heldDisk.f kj78 bt318.2 1).bind fun t320 => (if t320 < 0 then (some false) else (if t320 = bt318.1 then ((laws_toDisk.f kj78 l0_0).bind fun t321 => ((laws_toActS.f kj78 l1).bind fun t324 => ((impl_DoActs.f kj78 t321 t324).bind fun bt327 => ((laws_eqDisk.f kj78 bt327.1 t287).bind fun t332 => (if t332 = true then (laws_FnExactDoActs.j2 kj78 bt318.1 (bt327.2 != t290) bt318.2) else (laws_FnExactDoActs.j2 kj78 bt318.1 true bt318.2)))))) else (some false))))) = some r:=by rw [if_neg (show ¬ (false = true) by decide)] at H;exact H
           clear H
           have H:=H1
           clear H1
           replace H:=Option.bind_eq_some_iff.mp H
           obtain ⟨⟨t318,t319⟩,A1130,H⟩:=H
           replace H : ((laws_heldDisk.f kj78 t319 1).bind fun t320 => (if t320 < 0 then (some false) else (if t320 = t318 then ((laws_toDisk.f kj78 l0_0).bind fun t321 => ((laws_toActS.f kj78 l1).bind fun t324 => ((impl_DoActs.f kj78 t321 t324).bind fun bt327 => ((laws_eqDisk.f kj78 bt327.1 t287).bind fun t332 => (if t332 = true then (laws_FnExactDoActs.j2 kj78 t318 (bt327.2 != t290) t319) else (laws_FnExactDoActs.j2 kj78 t318 true t319)))))) else (some false)))) = some r:=H
           have A113:=Aside0.mk A1130
           clear A1130
           replace H:=Option.bind_eq_some_iff.mp H
           obtain ⟨t320,A1140,H⟩:=H
           replace H : (if t320 < 0 then (some false) else (if t320 = t318 then ((laws_toDisk.f kj78 l0_0).bind fun t321 => ((laws_toActS.f kj78 l1).bind fun t324 => ((impl_DoActs.f kj78 t321 t324).bind fun bt327 => ((laws_eqDisk.f kj78 bt327.1 t287).bind fun t332 => (if t332 = true then (laws_FnExactDoActs.j2 kj78 t318 (bt327.2 != t290) t319) else (laws_FnExactDoActs.j2 kj78 t318 true t319)))))) else (some false))) = some r:=H
           have A114:=Aside0.mk A1140
           clear A1140
           by_cases c115 : t320 < 0
           ·rw [if_pos c115] at H
            exact absurd (H.trans (congrArg some hrt)) (by first | simp | (cases kj78 <;> simp [laws_FnExactDoActs.j0,laws_FnExactDoActs.j1,laws_FnExactDoActs.j2]) | (cases kj19 <;> simp [laws_FnExactDoActs.j0,laws_FnExactDoActs.j1,laws_FnExactDoActs.j2]) | (cases k <;> simp [laws_FnExactDoActs.j0,laws_FnExactDoActs.j1,laws_FnExactDoActs.j2]))
           ·rw [if_neg c115] at H
            have c115b0 : decide (t320 < 0) = false:=decide_eq_false c115
            clear c115
            by_cases c123 : t320 = t318
            ·rw [if_pos c123] at H
             have c123b0 : (t320 == t318) = true:=beq_iff_eq.mpr c123
             have c123b1 : (t320 != t318) = false:=bne_eq_false_iff_eq.mpr c123
             clear c123
             replace H:=Option.bind_eq_some_iff.mp H
             obtain ⟨t321,A1240,H⟩:=H
             replace H : ((laws_toActS.f kj78 l1).bind fun t324 => ((impl_DoActs.f kj78 t321 t324).bind fun bt327 => ((laws_eqDisk.f kj78 bt327.1 t287).bind fun t332 => (if t332 = true then (laws_FnExactDoActs.j2 kj78 t318 (bt327.2 != t290) t319) else (laws_FnExactDoActs.j2 kj78 t318 true t319))))) = some r:=H
             have A124:=Aside0.mk A1240
             clear A1240
             replace H:=Option.bind_eq_some_iff.mp H
             obtain ⟨t324,A1250,H⟩:=H
             replace H : ((impl_DoActs.f kj78 t321 t324).bind fun bt327 => ((laws_eqDisk.f kj78 bt327.1 t287).bind fun t332 => (if t332 = true then (laws_FnExactDoActs.j2 kj78 t318 (bt327.2 != t290) t319) else (laws_FnExactDoActs.j2 kj78 t318 true t319)))) = some r:=H
             have A125:=Aside0.mk A1250
             clear A1250
             replace H:=Option.bind_eq_some_iff.mp H
             obtain ⟨⟨t327,t330⟩,A1260,H⟩:=H
             replace H : ((laws_eqDisk.f kj78 t327 t287).bind fun t332 => (if t332 = true then (laws_FnExactDoActs.j2 kj78 t318 (t330 != t290) t319) else (laws_FnExactDoActs.j2 kj78 t318 true t319))) = some r:=H
             have A126:=Aside0.mk A1260
             clear A1260
             have HC127:=Aside0.mk H
             clear H
             have hnb128:=NB303_278.out
             have hnc128:=NB278_303.out
             have hnb129:=NB303_291.out
             have hnc129:=NB291_303.out
             have hnb130:=NB303_295.out
             have hnc130:=NB295_303.out
             have hcz131_0 : wc.cell? ⟨gb303,0,none⟩ = some (.slice Ao47 t299.length co47):=(blk_cell BK303.out 0).trans rfl
             have hfz131_0:=blk_frozen BK303.out 0
             go_upto_region 32 with (first | ((with_reducible refine gate_callee (f:=32) rfl ?_);refine goesL_ (some 85) rfl rfl Try.func32 (by kernel_rfl) rfl #[.agg #[.slice Ao47 t299.length co47],.int .i64 1] rfl zM0 ?_;(with_reducible refine (laws_markDisk.calls kj78 (fun k_ => some k_ = (.slice Ao47 t299.length co47 : Value).ownBlock) (.slice Ao47 t299.length co47) t299 1 t318 t319 w _ ?side1 ?side2 A113.out).mono ?_);(case side1 => repeat (first | (with_reducible first | exact HB.out | apply below_alloc | apply pw_below_drewN | apply below_drew1 | refine below_set ?_ GE278.out | refine below_set ?_ GE291.out | refine below_set ?_ GE295.out | refine below_set ?_ GE303.out) | exact HB.out));(case side2 => exact Kd.R_tight rfl HO_304000.out);rintro e w132 ⟨rfl,hy0,hb,hkp⟩;refine ⟨_,rfl,?_⟩;have n0_:=Aside0.mk (Kd.R_mono (ok':=fun k_ => some k_ ≠ (.slice Ao38 t314.length co38 : Value).ownBlock ∧ some k_ ≠ (.slice Ao47 t299.length co47 : Value).ownBlock) (Kd.R_keptB (HO_292000.out) hkp (fun k_ hk_ hs_ => (hk_.2) hs_)) (fun k_ hk_ => ⟨hk_.1.1,hk_.1.2⟩));have n1_:=Aside0.mk (Kd.R_mono (ok':=fun k_ => some k_ ≠ (.slice Ao32 t287.length co32 : Value).ownBlock ∧ some k_ ≠ (.slice Ao47 t299.length co47 : Value).ownBlock) (Kd.R_keptB (HO_296000.out) hkp (fun k_ hk_ hs_ => (hk_.2) hs_)) (fun k_ hk_ => ⟨hk_.1.1,hk_.1.2⟩));have n2_:=Aside0.mk (Kd.R_reok rfl hy0 (fun k_ e_ => HO_304000.out.1 k_ e_));have n3_:=Aside0.mk (blk_kept (zK0 BK278.out) hkp (fun hs_ => (fun e_ => (Kd.R_ne HO_304000.out BK278.out (by decide)) e_) hs_));have n4_:=Aside0.mk (blk_kept (zK0 BK291.out) hkp (fun hs_ => (fun e_ => (Kd.R_ne HO_304000.out BK291.out (by decide)) e_) hs_));have n5_:=Aside0.mk (blk_kept (zK0 BK295.out) hkp (fun hs_ => (fun e_ => (Kd.R_ne HO_304000.out BK295.out (by decide)) e_) hs_));have n6_:=Aside0.mk (blk_kept (zK0 BK303.out) hkp (fun hs_ => (fun e_ => (Kd.R_ne HO_304000.out BK303.out (by decide)) e_) hs_));have n7_:=Aside0.mk (hb);clear HO_292000;clear HO_296000;clear HO_304000;clear BK278;clear BK291;clear BK295;clear BK303;clear HB;have HO_292000:=n0_;have HO_296000:=n1_;have HO_304000:=n2_;have BK278:=n3_;have BK291:=n4_;have BK295:=n5_;have BK303:=n6_;have HB:=n7_;clear n0_ n1_ n2_ n3_ n4_ n5_ n6_ n7_;(try clear hb);(try clear hkp);(try clear hy0);have hcz133_0 : w132.cell? ⟨gb303,0,none⟩ = some (.slice Ao47 t299.length co47):=(blk_cell BK303.out 0).trans rfl;have hfz133_0:=blk_frozen BK303.out 0) | ((with_reducible refine gate_callee (f:=34) rfl ?_);refine goesL_ (some 88) rfl rfl Try.func34 (by kernel_rfl) rfl #[.agg #[.slice Ao47 t319.length co47],.int .i64 1] rfl (by (try simp only [List.map_toArray,List.map_cons,List.map_nil]);first | done | (rw [show t319.length = t299.length from (Kd.R_reads' HO_304000.out).1.symm] <;> rfl) | rfl | (simp only [List.length_drop,List.length_take];rfl)) ?_;(with_reducible refine (laws_heldDisk.calls kj78 _ _ t319 1 t320 _ ?side1 ?side2 A114.out).mono ?_);(case side1 => repeat (first | exact (Kd.R_reads' HO_304000.out).2.2 | (with_reducible refine Kd.C_alloc ?_ _) | (with_reducible refine Kd.C_drewN ?_ _) | (with_reducible refine Kd.C_drew ?_)));(case side2 => rw [show t319.length = t299.length from (Kd.R_reads' HO_304000.out).1.symm];exact (Kd.R_reads' HO_304000.out).2.1);rintro e w134 ⟨rfl,hb⟩;refine ⟨_,rfl,?_⟩;have n0_:=Aside0.mk (Kd.R_below (zR0 HO_292000.out) hb);have n1_:=Aside0.mk (Kd.R_below (zR0 HO_296000.out) hb);have n2_:=Aside0.mk (Kd.R_below (zR0 HO_304000.out) hb);have n3_:=Aside0.mk (zB0 BK278.out hb);have n4_:=Aside0.mk (zB0 BK291.out hb);have n5_:=Aside0.mk (zB0 BK295.out hb);have n6_:=Aside0.mk (zB0 BK303.out hb);have n7_:=Aside0.mk (zS0 HB.out hb);clear HO_292000;clear HO_296000;clear HO_304000;clear BK278;clear BK291;clear BK295;clear BK303;clear HB;have HO_292000:=n0_;have HO_296000:=n1_;have HO_304000:=n2_;have BK278:=n3_;have BK291:=n4_;have BK295:=n5_;have BK303:=n6_;have HB:=n7_;clear n0_ n1_ n2_ n3_ n4_ n5_ n6_ n7_;(try clear hb);(try clear hb2);(try clear hk);(try clear hi);have hnb135:=NB278_291.out;have hnc135:=NB291_278.out;have hnb136:=NB278_295.out;have hnc136:=NB295_278.out;have hcz137_0 : w134.cell? ⟨gb278,0,none⟩ = some (.slice A0_0 l0_0.length c0_0):=(blk_cell BK278.out 0).trans rfl;have hfz137_0:=blk_frozen BK278.out 0) | ((with_reducible refine gate_callee (f:=16) rfl ?_);refine goesL_ (some 96) rfl rfl Try.func16 (by kernel_rfl) rfl #[.agg #[.slice A0_0 l0_0.length c0_0]] rfl zM0 ?_;(with_reducible refine (laws_toDisk.calls kj78 _ _ l0_0 t321 _ ?side1 ?side2 A124.out).mono ?_);(case side1 => repeat (first | exact (Kd.C_below HR0_0.out HB.out) | (with_reducible refine Kd.C_alloc ?_ _) | (with_reducible refine Kd.C_drewN ?_ _) | (with_reducible refine Kd.C_drew ?_)));(case side2 => exact HC0_0.out);rintro e w138 ⟨v322,rfl,ho0,hb⟩;refine ⟨_,rfl,?_⟩;have n0_:=Aside0.mk (Kd.R_elder' (zR0 HO_292000.out) (Kd.R_base ho0) hb);have n1_:=Aside0.mk (Kd.R_elder' (zR0 HO_296000.out) (Kd.R_base ho0) hb);have n2_:=Aside0.mk (Kd.R_elder' (zR0 HO_304000.out) (Kd.R_base ho0) hb);have n3_:=Aside0.mk (Kd.R_lower (Kd.R_new' (Kd.R_new' (Kd.R_new' ho0 (Kd.R_lt (zR0 HO_292000.out))) (Kd.R_lt (zR0 HO_296000.out))) (Kd.R_lt (zR0 HO_304000.out))) (zZ0 HB.out));have n4_:=Aside0.mk (zB0 BK278.out hb);have n5_:=Aside0.mk (zB0 BK291.out hb);have n6_:=Aside0.mk (zB0 BK295.out hb);have n7_:=Aside0.mk (zB0 BK303.out hb);have n8_:=Aside0.mk (zS0 HB.out hb);clear HO_292000;clear HO_296000;clear HO_304000;clear BK278;clear BK291;clear BK295;clear BK303;clear HB;have HO_292000:=n0_;have HO_296000:=n1_;have HO_304000:=n2_;have HO323:=n3_;have BK278:=n4_;have BK291:=n5_;have BK295:=n6_;have BK303:=n7_;have HB:=n8_;clear n0_ n1_ n2_ n3_ n4_ n5_ n6_ n7_ n8_;(try clear hb);(try clear hb2);(try clear hk);(try clear hi);(try clear ho0)) | ((with_reducible refine gate_callee (f:=41) rfl ?_);refine goesL_ (some 98) rfl rfl Try.func41 (by kernel_rfl) rfl #[.slice A1 l1.length c1] rfl zM0 ?_;(with_reducible refine (laws_toActS.calls kj78 _ _ l1 t324 _ ?side1 ?side2 A125.out).mono ?_);(case side1 => repeat (first | exact (Kd.C_below HR1.out HB.out) | (with_reducible refine Kd.C_alloc ?_ _) | (with_reducible refine Kd.C_drewN ?_ _) | (with_reducible refine Kd.C_drew ?_)));(case side2 => exact HC1.out);rintro e w139 ⟨v325,rfl,ho0,hb⟩;refine ⟨_,rfl,?_⟩;have n0_:=Aside0.mk (Kd.R_below (zR0 HO_292000.out) hb);have n1_:=Aside0.mk (Kd.R_below (zR0 HO_296000.out) hb);have n2_:=Aside0.mk (Kd.R_below (zR0 HO_304000.out) hb);have n3_:=Aside0.mk (Kd.R_below (zR0 HO323.out) hb);have n4_:=Aside0.mk (Kd.R_lower ho0 (zZ0 HB.out));have n5_:=Aside0.mk (zB0 BK278.out hb);have n6_:=Aside0.mk (zB0 BK291.out hb);have n7_:=Aside0.mk (zB0 BK295.out hb);have n8_:=Aside0.mk (zB0 BK303.out hb);have n9_:=Aside0.mk (zS0 HB.out hb);clear HO_292000;clear HO_296000;clear HO_304000;clear HO323;clear BK278;clear BK291;clear BK295;clear BK303;clear HB;have HO_292000:=n0_;have HO_296000:=n1_;have HO_304000:=n2_;have HO323:=n3_;have HO326:=n4_;have BK278:=n5_;have BK291:=n6_;have BK295:=n7_;have BK303:=n8_;have HB:=n9_;clear n0_ n1_ n2_ n3_ n4_ n5_ n6_ n7_ n8_ n9_;(try clear hb);(try clear hb2);(try clear hk);(try clear hi);(try clear ho0);obtain ⟨Ao140,co140,eo140⟩:=Kd.R_slice HO323.out;subst eo140;obtain ⟨Ao141,co141,eo141⟩:=Kd.R_slice HO326.out;subst eo141) | ((with_reducible refine gate_callee (f:=42) rfl ?_);refine goesL_ (some 99) rfl rfl Try.func42 (by kernel_rfl) rfl #[.agg #[.slice Ao140 t321.length co140],.slice Ao141 t324.length co141] rfl zM0 ?_;(with_reducible refine (impl_DoActs.calls kj78 _ _ t321 _ _ t324 t327 t330 _ ?side1 ?side2 ?side3 ?side4 A126.out).mono ?_);(case side1 => repeat (first | exact (Kd.R_reads' HO323.out).2.2 | (with_reducible refine Kd.C_alloc ?_ _) | (with_reducible refine Kd.C_drewN ?_ _) | (with_reducible refine Kd.C_drew ?_)));(case side2 => exact (Kd.R_reads' HO323.out).2.1);(case side3 => repeat (first | exact (Kd.R_reads' HO326.out).2.2 | (with_reducible refine Kd.C_alloc ?_ _) | (with_reducible refine Kd.C_drewN ?_ _) | (with_reducible refine Kd.C_drew ?_)));(case side4 => exact (Kd.R_reads' HO326.out).2.1);rintro e w142 ⟨v328,rfl,ho0,hb⟩;refine ⟨_,rfl,?_⟩;have n0_:=Aside0.mk (Kd.R_elder' (zR0 HO_292000.out) (Kd.R_base ho0) hb);have n1_:=Aside0.mk (Kd.R_elder' (zR0 HO_296000.out) (Kd.R_base ho0) hb);have n2_:=Aside0.mk (Kd.R_elder' (zR0 HO_304000.out) (Kd.R_base ho0) hb);have n3_:=Aside0.mk (Kd.R_elder' (zR0 HO323.out) (Kd.R_base ho0) hb);have n4_:=Aside0.mk (Kd.R_below (zR0 HO326.out) hb);have n5_:=Aside0.mk (Kd.R_lower (Kd.R_new' (Kd.R_new' (Kd.R_new' (Kd.R_new' ho0 (Kd.R_lt (zR0 HO_292000.out))) (Kd.R_lt (zR0 HO_296000.out))) (Kd.R_lt (zR0 HO_304000.out))) (Kd.R_lt (zR0 HO323.out))) (zZ0 HB.out));have n6_:=Aside0.mk (zB0 BK278.out hb);have n7_:=Aside0.mk (zB0 BK291.out hb);have n8_:=Aside0.mk (zB0 BK295.out hb);have n9_:=Aside0.mk (zB0 BK303.out hb);have n10_:=Aside0.mk (zS0 HB.out hb);clear HO_292000;clear HO_296000;clear HO_304000;clear HO323;clear HO326;clear BK278;clear BK291;clear BK295;clear BK303;clear HB;have HO_292000:=n0_;have HO_296000:=n1_;have HO_304000:=n2_;have HO323:=n3_;have HO326:=n4_;have HO329:=n5_;have BK278:=n6_;have BK291:=n7_;have BK295:=n8_;have BK303:=n9_;have HB:=n10_;clear n0_ n1_ n2_ n3_ n4_ n5_ n6_ n7_ n8_ n9_ n10_;(try clear hb);(try clear hb2);(try clear hk);(try clear hi);(try clear ho0)) | ((with_reducible refine gate_dst (N:=15) rfl ?_);refine box_event ?hg (N:=15) ?hd (cs:=#[.slice none 0 0]) (t:=30) ?hr ?_;(case hd => rfl);(case hg => rfl);(case hr => first | (go_simp;done) | (go_simp;rfl));intro gb331 hg w143 hbox hb;have n0_:=Aside0.mk (Kd.R_below (zR0 HO_292000.out) hb);have n1_:=Aside0.mk (Kd.R_below (zR0 HO_296000.out) hb);have n2_:=Aside0.mk (Kd.R_below (zR0 HO_304000.out) hb);have n3_:=Aside0.mk (Kd.R_below (zR0 HO323.out) hb);have n4_:=Aside0.mk (Kd.R_below (zR0 HO326.out) hb);have n5_:=Aside0.mk (Kd.R_below (zR0 HO329.out) hb);have n6_:=Aside0.mk (zB0 BK278.out hb);have n7_:=Aside0.mk (zB0 BK291.out hb);have n8_:=Aside0.mk (zB0 BK295.out hb);have n9_:=Aside0.mk (zB0 BK303.out hb);have n10_:=Aside0.mk (zS0 HB.out hb);have n11_:=Aside0.mk (hbox);have n12_:=Aside0.mk ((by rw [hg];exact (zZ0 HB.out) : w.heap.size ≤ gb331));have n13_:=Aside0.mk ((by rw [hg];exact (zZ0 HB.out) : w.heap.size ≤ gb331));have n14_:=Aside0.mk ((zL0 hg BK278.out : gb278 ≠ gb331));have n15_:=Aside0.mk ((zG0 hg BK278.out : gb331 ≠ gb278));have n16_:=Aside0.mk ((zL0 hg BK291.out : gb291 ≠ gb331));have n17_:=Aside0.mk ((zG0 hg BK291.out : gb331 ≠ gb291));have n18_:=Aside0.mk ((zL0 hg BK295.out : gb295 ≠ gb331));have n19_:=Aside0.mk ((zG0 hg BK295.out : gb331 ≠ gb295));have n20_:=Aside0.mk ((zL0 hg BK303.out : gb303 ≠ gb331));have n21_:=Aside0.mk ((zG0 hg BK303.out : gb331 ≠ gb303));clear HO_292000;clear HO_296000;clear HO_304000;clear HO323;clear HO326;clear HO329;clear BK278;clear BK291;clear BK295;clear BK303;clear HB;have HO_292000:=n0_;have HO_296000:=n1_;have HO_304000:=n2_;have HO323:=n3_;have HO326:=n4_;have HO329:=n5_;have BK278:=n6_;have BK291:=n7_;have BK295:=n8_;have BK303:=n9_;have HB:=n10_;have BK331:=n11_;have GW331:=n12_;have GE331:=n13_;have NB278_331:=n14_;have NB331_278:=n15_;have NB291_331:=n16_;have NB331_291:=n17_;have NB295_331:=n18_;have NB331_295:=n19_;have NB303_331:=n20_;have NB331_303:=n21_;clear n0_ n1_ n2_ n3_ n4_ n5_ n6_ n7_ n8_ n9_ n10_ n11_ n12_ n13_ n14_ n15_ n16_ n17_ n18_ n19_ n20_ n21_;clear hb hbox hg;obtain ⟨Ao144,co144,eo144⟩:=Kd.R_slice HO329.out;subst eo144;have hnb145:=NB331_278.out;have hnc145:=NB278_331.out;have hnb146:=NB331_291.out;have hnc146:=NB291_331.out;have hnb147:=NB331_295.out;have hnc147:=NB295_331.out;have hnb148:=NB331_303.out;have hnc148:=NB303_331.out;have hcz149_0 : w143.cell? ⟨gb331,0,none⟩ = some (.slice none 0 0):=(blk_cell BK331.out 0).trans rfl;have hfz149_0:=blk_frozen BK331.out 0))
             (try simp only [Act.put,qA0,qB0,qC0])
             go_cut [110] (fun v110 wc => ∃ (kq : Nat) (x110_126 : Bool),v110 = .bool x110_126 ∧ Aside0 (laws_FnExactDoActs.j2 kq t318 x110_126 t319 = some r) ∧ Aside0 (kq ≤ kj78) ∧ Aside0 (Kd.R k45 45 wc w.heap.size (fun k_ => some k_ ≠ ((.slice Ao38 t314.length co38) : Value).ownBlock ∧ some k_ ≠ ((.slice Ao47 t299.length co47) : Value).ownBlock ∧ some k_ ≠ ((.slice Ao144 t327.length co144) : Value).ownBlock) (.slice Ao32 t287.length co32) t287) ∧ Aside0 (Kd.R k45 45 wc w.heap.size (fun k_ => some k_ ≠ ((.slice Ao32 t287.length co32) : Value).ownBlock ∧ some k_ ≠ ((.slice Ao47 t299.length co47) : Value).ownBlock ∧ some k_ ≠ ((.slice Ao144 t327.length co144) : Value).ownBlock) (.slice Ao38 t314.length co38) t314) ∧ Aside0 (Kd.R k45 45 wc w.heap.size (fun k_ => some k_ ≠ ((.slice Ao32 t287.length co32) : Value).ownBlock ∧ some k_ ≠ ((.slice Ao38 t314.length co38) : Value).ownBlock ∧ some k_ ≠ ((.slice Ao144 t327.length co144) : Value).ownBlock) (.slice Ao47 t299.length co47) t319) ∧ Aside0 (Kd.R k45 45 wc w.heap.size (fun k_ => some k_ ≠ ((.slice Ao32 t287.length co32) : Value).ownBlock ∧ some k_ ≠ ((.slice Ao38 t314.length co38) : Value).ownBlock ∧ some k_ ≠ ((.slice Ao47 t299.length co47) : Value).ownBlock) (.slice Ao144 t327.length co144) t327) ∧ Aside0 (wc.heap[gb278]? = some (.cells #[(.slice A0_0 l0_0.length c0_0)] 24 (0,0))) ∧ Aside0 (wc.heap[gb291]? = some (.cells #[(.slice Ao32 t287.length co32)] 30 (0,0))) ∧ Aside0 (wc.heap[gb295]? = some (.cells #[(.slice Ao38 t314.length co38)] 30 (0,0))) ∧ Aside0 (wc.heap[gb303]? = some (.cells #[(.slice Ao47 t299.length co47)] 30 (0,0))) ∧ Aside0 (wc.heap[gb331]? = some (.cells #[(.slice Ao144 t327.length co144)] 30 (0,0))) ∧ Aside0 (Below w.heap.size w wc))
             case first =>
              have H:=HC127.out
              clear HC127
              replace H:=Option.bind_eq_some_iff.mp H
              obtain ⟨t332,A1500,H⟩:=H
              replace H : (if t332 = true then (laws_FnExactDoActs.j2 kj78 t318 (t330 != t290) t319) else (laws_FnExactDoActs.j2 kj78 t318 true t319)) = some r:=H
              have A150:=Aside0.mk A1500
              clear A1500
              by_cases c151 : t332 = true
              ·subst c151
               have H1 : (laws_FnExactDoActs.j2 kj78 t318 (t330 != t290) t319) = some r:=by rw [if_pos rfl] at H;exact H
               clear H
               have H:=H1
               clear H1
               have H':=Aside0.mk H
               clear H
               have hnb152:=NB331_278.out
               have hnc152:=NB278_331.out
               have hnb153:=NB331_291.out
               have hnc153:=NB291_331.out
               have hnb154:=NB331_295.out
               have hnc154:=NB295_331.out
               have hnb155:=NB331_303.out
               have hnc155:=NB303_331.out
               have hcz156_0 : w143.cell? ⟨gb331,0,none⟩ = some (.slice none 0 0):=(blk_cell BK331.out 0).trans rfl
               have hfz156_0:=blk_frozen BK331.out 0
               have hnb157:=NB291_278.out
               have hnc157:=NB278_291.out
               have hnb158:=NB291_295.out
               have hnc158:=NB295_291.out
               have hnb159:=NB291_303.out
               have hnc159:=NB303_291.out
               have hcz160_0 : w143.cell? ⟨gb291,0,none⟩ = some (.slice Ao32 t287.length co32):=(blk_cell BK291.out 0).trans rfl
               have hfz160_0:=blk_frozen BK291.out 0
               go_wp2_with (first | ((with_reducible refine gate_callee (f:=18) rfl ?_);refine goesL_ (some 104) rfl rfl Try.func18 (by kernel_rfl) rfl #[.agg #[.slice Ao144 t327.length co144],.agg #[.slice Ao32 t287.length co32]] rfl zM0 ?_;(with_reducible refine (laws_eqDisk.calls kj78 _ _ t327 _ _ t287 true _ ?side1 ?side2 ?side3 ?side4 A150.out).mono ?_);(case side1 => refine (Kd.R_reads' (e:=45) (base:=w.heap.size) (ok:=fun k_ => ((((True ∧ some k_ ≠ (.slice Ao32 t287.length co32 : Value).ownBlock) ∧ some k_ ≠ (.slice Ao38 t314.length co38 : Value).ownBlock) ∧ some k_ ≠ (.slice Ao47 t299.length co47 : Value).ownBlock) ∧ some k_ ≠ (.slice Ao140 t321.length co140 : Value).ownBlock)) (n:=t327.length) (c:=co144) ?_).2.2;exact (by refine zV0 ?_;exact (Kd.R_mono (Kd.R_far (p:=⟨gb331,0,none⟩) (Kd.R_types HO329.out BK331.out (by decide)) (fun _ hk => hk.2) (.slice Ao144 t327.length co144)) (fun _ h_ => h_.1))));(case side2 => exact (Kd.R_reads' HO329.out).2.1);(case side3 => refine (Kd.R_reads' (e:=45) (base:=w.heap.size) (ok:=fun k_ => (((some k_ ≠ (.slice Ao38 t314.length co38 : Value).ownBlock ∧ some k_ ≠ (.slice Ao47 t299.length co47 : Value).ownBlock) ∧ some k_ ≠ (.slice Ao140 t321.length co140 : Value).ownBlock) ∧ some k_ ≠ (.slice Ao144 t327.length co144 : Value).ownBlock)) (n:=t287.length) (c:=co32) ?_).2.2;exact (by refine zV0 ?_;exact (Kd.R_mono (Kd.R_far (p:=⟨gb331,0,none⟩) (Kd.R_types HO_292000.out BK331.out (by decide)) (fun _ hk => hk.2) (.slice Ao144 t327.length co144)) (fun _ h_ => h_.1))));(case side4 => exact (Kd.R_reads' HO_292000.out).2.1);rintro e w161 ⟨rfl,hb⟩;refine ⟨_,rfl,?_⟩;have n0_:=Aside0.mk (Kd.R_below (by refine zV0 ?_;exact (Kd.R_mono (Kd.R_far (p:=⟨gb331,0,none⟩) (Kd.R_types HO_292000.out BK331.out (by decide)) (fun _ hk => hk.2) (.slice Ao144 t327.length co144)) (fun _ h_ => h_.1))) hb);have n1_:=Aside0.mk (Kd.R_below (by refine zV0 ?_;exact (Kd.R_mono (Kd.R_far (p:=⟨gb331,0,none⟩) (Kd.R_types HO_296000.out BK331.out (by decide)) (fun _ hk => hk.2) (.slice Ao144 t327.length co144)) (fun _ h_ => h_.1))) hb);have n2_:=Aside0.mk (Kd.R_below (by refine zV0 ?_;exact (Kd.R_mono (Kd.R_far (p:=⟨gb331,0,none⟩) (Kd.R_types HO_304000.out BK331.out (by decide)) (fun _ hk => hk.2) (.slice Ao144 t327.length co144)) (fun _ h_ => h_.1))) hb);have n3_:=Aside0.mk (Kd.R_below (by refine zV0 ?_;exact (Kd.R_mono (Kd.R_far (p:=⟨gb331,0,none⟩) (Kd.R_types HO323.out BK331.out (by decide)) (fun _ hk => hk.2) (.slice Ao144 t327.length co144)) (fun _ h_ => h_.1))) hb);have n4_:=Aside0.mk (Kd.R_below (by refine zV0 ?_;exact (Kd.R_mono (Kd.R_far (p:=⟨gb331,0,none⟩) (Kd.R_types HO326.out BK331.out (by decide)) (fun _ hk => hk.2) (.slice Ao144 t327.length co144)) (fun _ h_ => h_.1))) hb);have n5_:=Aside0.mk (Kd.R_below (by refine zV0 ?_;exact (Kd.R_mono (Kd.R_far (p:=⟨gb331,0,none⟩) (Kd.R_types HO329.out BK331.out (by decide)) (fun _ hk => hk.2) (.slice Ao144 t327.length co144)) (fun _ h_ => h_.1))) hb);have n6_:=Aside0.mk (zB0 BK278.out hb);have n7_:=Aside0.mk (zB0 BK291.out hb);have n8_:=Aside0.mk (zB0 BK295.out hb);have n9_:=Aside0.mk (zB0 BK303.out hb);have n10_:=Aside0.mk (blk_below (g:=gb331) (o:=.cells #[.slice Ao144 t327.length co144] 30 (0,0)) (by refine zT0 ?_;refine blk_put (cs:=#[.slice none 0 0]) ?_ 0 _ rfl;exact zK0 BK331.out) hb);have n11_:=Aside0.mk (zS0 HB.out hb);clear HO_292000;clear HO_296000;clear HO_304000;clear HO323;clear HO326;clear HO329;clear BK278;clear BK291;clear BK295;clear BK303;clear BK331;clear HB;have HO_292000:=n0_;have HO_296000:=n1_;have HO_304000:=n2_;have HO323:=n3_;have HO326:=n4_;have HO329:=n5_;have BK278:=n6_;have BK291:=n7_;have BK295:=n8_;have BK303:=n9_;have BK331:=n10_;have HB:=n11_;clear n0_ n1_ n2_ n3_ n4_ n5_ n6_ n7_ n8_ n9_ n10_ n11_;(try clear hb);(try clear hb2);(try clear hk);(try clear hi)))
               go_meet
               case rel => exact ⟨_,((t330 != t290)),(by first | rfl | (simp;done) | (simp [*];done)),H',⟨by have:=HJ19.out;have:=HJ78.out;first | omega | exact Nat.le_refl _⟩,⟨by (try simp only [hl296000_78]);refine zV0 ?_;exact Kd.R_mono HO_292000.out (fun _ hk => ⟨hk.1.1.1,⟨hk.1.1.2,hk.2⟩⟩)⟩,⟨by (try simp only [hl296000_78]);refine zV0 ?_;exact Kd.R_mono HO_296000.out (fun _ hk => ⟨hk.1.1.1,⟨hk.1.1.2,hk.2⟩⟩)⟩,⟨by (try simp only [hl296000_78]);refine zV0 ?_;exact Kd.R_mono HO_304000.out (fun _ hk => ⟨hk.1.1.1,⟨hk.1.1.2,hk.2⟩⟩)⟩,⟨by (try simp only [hl296000_78]);refine zV0 ?_;exact Kd.R_mono HO329.out (fun _ hk => ⟨hk.1.1.1.2,⟨hk.1.1.2,hk.1.2⟩⟩)⟩,⟨by (try simp only [hl296000_78]);exact zK0 BK278.out⟩,⟨by (try simp only [hl296000_78]);exact zK0 BK291.out⟩,⟨by (try simp only [hl296000_78]);exact zK0 BK295.out⟩,⟨by (try simp only [hl296000_78]);exact zK0 BK303.out⟩,⟨by (try simp only [hl296000_78]);exact zK0 BK331.out⟩,⟨zY0 HB.out⟩⟩
              ·replace c151:=Bool.eq_false_iff.mpr c151
               subst c151
               have H1 : (laws_FnExactDoActs.j2 kj78 t318 true t319) = some r:=by rw [if_neg (show ¬ (false = true) by decide)] at H;exact H
               exact absurd (H1.trans (congrArg some hrt)) (by first | simp | (cases kj78 <;> simp [laws_FnExactDoActs.j0,laws_FnExactDoActs.j1,laws_FnExactDoActs.j2]) | (cases kj19 <;> simp [laws_FnExactDoActs.j0,laws_FnExactDoActs.j1,laws_FnExactDoActs.j2]) | (cases k <;> simp [laws_FnExactDoActs.j0,laws_FnExactDoActs.j1,laws_FnExactDoActs.j2]))
             case rest =>
              clear HC127
              try clear c1
              try clear p2
              try clear c3
              try clear c4
              try clear c4b0
              try clear c5
              try clear c6
              try clear c7
              try clear c8
              try clear c9
              try clear c9b0
              try clear c10
              try clear c11
              try clear c12
              try clear c13
              try clear c14
              try clear c15
              try clear c16
              try clear c18
              try clear c32
              try clear c33
              try clear c34
              try clear c39
              try clear c40
              try clear c41
              try clear c42
              try clear c43
              try clear c44
              try clear c48
              try clear c49
              try clear c50
              try clear c53
              try clear c54
              try clear c55
              try clear c56
              try clear c58
              try clear c59
              try clear c62
              try clear c63
              try clear c64
              try clear c66
              try clear c67
              try clear c70
              try clear c73
              try clear c76
              try clear c87
              try clear c88
              try clear c89
              try clear c93
              try clear c93b0
              try clear c95
              try clear c96
              try clear c97
              try clear c98
              try clear c100
              try clear c101
              try clear c104
              try clear c105
              try clear c106
              try clear c108
              try clear c109
              try clear c112
              try clear c115
              try clear c115b0
              try clear c116
              try clear c117
              try clear c118
              try clear c123
              try clear c123b0
              try clear c123b1
              try clear c128
              try clear c129
              try clear c130
              try clear c135
              try clear c136
              try clear c145
              try clear c146
              try clear c147
              try clear c148
              try clear c151
              try clear c152
              try clear c153
              try clear c154
              try clear c155
              try clear c157
              try clear c158
              try clear c159
              try clear c162
              try clear c163
              try clear c164
              try clear c165
              try clear c167
              try clear c168
              try clear c169
              try clear hcz102_0
              try clear hcz107_0
              try clear hcz110_0
              try clear hcz119_0
              try clear hcz11_0
              try clear hcz121_0
              try clear hcz131_0
              try clear hcz133_0
              try clear hcz137_0
              try clear hcz149_0
              try clear hcz156_0
              try clear hcz160_0
              try clear hcz166_0
              try clear hcz170_0
              try clear hcz22_0
              try clear hcz25_0
              try clear hcz34_0
              try clear hcz35_0
              try clear hcz41_0
              try clear hcz43_0
              try clear hcz51_0
              try clear hcz57_0
              try clear hcz60_0
              try clear hcz65_0
              try clear hcz68_0
              try clear hcz6_0
              try clear hcz90_0
              try clear hcz99_0
              try clear hfz102_0
              try clear hfz107_0
              try clear hfz110_0
              try clear hfz119_0
              try clear hfz11_0
              try clear hfz121_0
              try clear hfz131_0
              try clear hfz133_0
              try clear hfz137_0
              try clear hfz149_0
              try clear hfz156_0
              try clear hfz160_0
              try clear hfz166_0
              try clear hfz170_0
              try clear hfz22_0
              try clear hfz25_0
              try clear hfz34_0
              try clear hfz35_0
              try clear hfz41_0
              try clear hfz43_0
              try clear hfz51_0
              try clear hfz57_0
              try clear hfz60_0
              try clear hfz65_0
              try clear hfz68_0
              try clear hfz6_0
              try clear hfz90_0
              try clear hfz99_0
              try clear p2
              obtain ⟨kq,x110_126,rfl,HA,HJ126,HO_292000,HO_296000,HO_304000,HO_332000,BK278,BK291,BK295,BK303,BK331,HB⟩:=hcut
              have hl304000_126:=(Kd.R_reads' HO_304000.out).1
              rw [hl304000_126] at HO_304000
              (try simp only [hl304000_126])
              (try simp only [hl304000_126] at BK278)
              (try simp only [hl304000_126] at BK291)
              (try simp only [hl304000_126] at BK295)
              (try simp only [hl304000_126] at BK303)
              (try simp only [hl304000_126] at BK331)
              (try simp only [hl304000_126] at HO_292000)
              (try simp only [hl304000_126] at HO_296000)
              (try simp only [hl304000_126] at HO_332000)
              cases kq with
              | zero => exact absurd HA.out (by simp [laws_FnExactDoActs.j2])
              | succ kj126 =>
               have H:=HA.out
               clear HA
               simp only [laws_FnExactDoActs.j2] at H
               by_cases c172 : x110_126 = true
               ·subst c172
                have H1 : (some false) = some r:=by rw [if_pos rfl] at H;exact H
                exact absurd (H1.trans (congrArg some hrt)) (by first | simp | (cases kj126 <;> simp [laws_FnExactDoActs.j0,laws_FnExactDoActs.j1,laws_FnExactDoActs.j2]) | (cases kj78 <;> simp [laws_FnExactDoActs.j0,laws_FnExactDoActs.j1,laws_FnExactDoActs.j2]) | (cases kj19 <;> simp [laws_FnExactDoActs.j0,laws_FnExactDoActs.j1,laws_FnExactDoActs.j2]) | (cases k <;> simp [laws_FnExactDoActs.j0,laws_FnExactDoActs.j1,laws_FnExactDoActs.j2]))
               ·replace c172:=Bool.eq_false_iff.mpr c172
                subst c172
                have H1 : ((laws_heldDisk.f kj126 t319 1).bind fun t333 => (if t333 < 0 then (some false) else (if t333 = t318 then (some true) else (some false)))) = some r:=by rw [if_neg (show ¬ (false = true) by decide)] at H;exact H
                clear H
                have H:=H1
                clear H1
                replace H:=Option.bind_eq_some_iff.mp H
                obtain ⟨t333,A1730,H⟩:=H
                replace H : (if t333 < 0 then (some false) else (if t333 = t318 then (some true) else (some false))) = some r:=H
                have A173:=Aside0.mk A1730
                clear A1730
                by_cases c174 : t333 < 0
                ·rw [if_pos c174] at H
                 exact absurd (H.trans (congrArg some hrt)) (by first | simp | (cases kj126 <;> simp [laws_FnExactDoActs.j0,laws_FnExactDoActs.j1,laws_FnExactDoActs.j2]) | (cases kj78 <;> simp [laws_FnExactDoActs.j0,laws_FnExactDoActs.j1,laws_FnExactDoActs.j2]) | (cases kj19 <;> simp [laws_FnExactDoActs.j0,laws_FnExactDoActs.j1,laws_FnExactDoActs.j2]) | (cases k <;> simp [laws_FnExactDoActs.j0,laws_FnExactDoActs.j1,laws_FnExactDoActs.j2]))
                ·rw [if_neg c174] at H
                 have c174b0 : decide (t333 < 0) = false:=decide_eq_false c174
                 clear c174
                 by_cases c181 : t333 = t318
                 ·rw [if_pos c181] at H
                  have c181b0 : (t333 == t318) = true:=beq_iff_eq.mpr c181
                  have c181b1 : (t333 != t318) = false:=bne_eq_false_iff_eq.mpr c181
                  clear c181
                  obtain rfl:=Option.some.inj H
                  have hnb182:=NB303_278.out
                  have hnc182:=NB278_303.out
                  have hnb183:=NB303_291.out
                  have hnc183:=NB291_303.out
                  have hnb184:=NB303_295.out
                  have hnc184:=NB295_303.out
                  have hnb185:=NB303_331.out
                  have hnc185:=NB331_303.out
                  have hcz186_0 : wc.cell? ⟨gb303,0,none⟩ = some (.slice Ao47 t319.length co47):=(blk_cell BK303.out 0).trans rfl
                  have hfz186_0:=blk_frozen BK303.out 0
                  go_wp2_with (first | ((with_reducible refine gate_callee (f:=34) rfl ?_);refine goesL_ (some 113) rfl rfl Try.func34 (by kernel_rfl) rfl #[.agg #[.slice Ao47 t319.length co47],.int .i64 1] rfl zM0 ?_;(with_reducible refine (laws_heldDisk.calls kj126 _ _ t319 1 t333 _ ?side1 ?side2 A173.out).mono ?_);(case side1 => repeat (first | exact (Kd.R_reads' HO_304000.out).2.2 | (with_reducible refine Kd.C_alloc ?_ _) | (with_reducible refine Kd.C_drewN ?_ _) | (with_reducible refine Kd.C_drew ?_)));(case side2 => exact (Kd.R_reads' HO_304000.out).2.1);rintro e w187 ⟨rfl,hb⟩;refine ⟨_,rfl,?_⟩;have n0_:=Aside0.mk (Kd.R_below (zR0 HO_292000.out) hb);have n1_:=Aside0.mk (Kd.R_below (zR0 HO_296000.out) hb);have n2_:=Aside0.mk (Kd.R_below (zR0 HO_304000.out) hb);have n3_:=Aside0.mk (Kd.R_below (zR0 HO_332000.out) hb);have n4_:=Aside0.mk (zB0 BK278.out hb);have n5_:=Aside0.mk (zB0 BK291.out hb);have n6_:=Aside0.mk (zB0 BK295.out hb);have n7_:=Aside0.mk (zB0 BK303.out hb);have n8_:=Aside0.mk (zB0 BK331.out hb);have n9_:=Aside0.mk (zS0 HB.out hb);clear HO_292000;clear HO_296000;clear HO_304000;clear HO_332000;clear BK278;clear BK291;clear BK295;clear BK303;clear BK331;clear HB;have HO_292000:=n0_;have HO_296000:=n1_;have HO_304000:=n2_;have HO_332000:=n3_;have BK278:=n4_;have BK291:=n5_;have BK295:=n6_;have BK303:=n7_;have BK331:=n8_;have HB:=n9_;clear n0_ n1_ n2_ n3_ n4_ n5_ n6_ n7_ n8_ n9_;(try clear hb);(try clear hb2);(try clear hk);(try clear hi)))
                  go_ret
                  exact ⟨by first | rfl | (simp [errW_none,errW_some] <;> rfl) | (simp [*,errW_none,errW_some] <;> rfl),(zY0 HB.out)⟩
                 ·rw [if_neg c181] at H
                  have c181b0 : (t333 == t318) = false:=beq_eq_false_iff_ne.mpr c181
                  have c181b1 : (t333 != t318) = true:=bne_iff_ne.mpr c181
                  obtain rfl:=Option.some.inj H
                  have hnb188:=NB303_278.out
                  have hnc188:=NB278_303.out
                  have hnb189:=NB303_291.out
                  have hnc189:=NB291_303.out
                  have hnb190:=NB303_295.out
                  have hnc190:=NB295_303.out
                  have hnb191:=NB303_331.out
                  have hnc191:=NB331_303.out
                  have hcz192_0 : wc.cell? ⟨gb303,0,none⟩ = some (.slice Ao47 t319.length co47):=(blk_cell BK303.out 0).trans rfl
                  have hfz192_0:=blk_frozen BK303.out 0
                  go_wp2_with (first | ((with_reducible refine gate_callee (f:=34) rfl ?_);refine goesL_ (some 113) rfl rfl Try.func34 (by kernel_rfl) rfl #[.agg #[.slice Ao47 t319.length co47],.int .i64 1] rfl zM0 ?_;(with_reducible refine (laws_heldDisk.calls kj126 _ _ t319 1 t333 _ ?side1 ?side2 A173.out).mono ?_);(case side1 => repeat (first | exact (Kd.R_reads' HO_304000.out).2.2 | (with_reducible refine Kd.C_alloc ?_ _) | (with_reducible refine Kd.C_drewN ?_ _) | (with_reducible refine Kd.C_drew ?_)));(case side2 => exact (Kd.R_reads' HO_304000.out).2.1);rintro e w193 ⟨rfl,hb⟩;refine ⟨_,rfl,?_⟩;have n0_:=Aside0.mk (Kd.R_below (zR0 HO_292000.out) hb);have n1_:=Aside0.mk (Kd.R_below (zR0 HO_296000.out) hb);have n2_:=Aside0.mk (Kd.R_below (zR0 HO_304000.out) hb);have n3_:=Aside0.mk (Kd.R_below (zR0 HO_332000.out) hb);have n4_:=Aside0.mk (zB0 BK278.out hb);have n5_:=Aside0.mk (zB0 BK291.out hb);have n6_:=Aside0.mk (zB0 BK295.out hb);have n7_:=Aside0.mk (zB0 BK303.out hb);have n8_:=Aside0.mk (zB0 BK331.out hb);have n9_:=Aside0.mk (zS0 HB.out hb);clear HO_292000;clear HO_296000;clear HO_304000;clear HO_332000;clear BK278;clear BK291;clear BK295;clear BK303;clear BK331;clear HB;have HO_292000:=n0_;have HO_296000:=n1_;have HO_304000:=n2_;have HO_332000:=n3_;have BK278:=n4_;have BK291:=n5_;have BK295:=n6_;have BK303:=n7_;have BK331:=n8_;have HB:=n9_;clear n0_ n1_ n2_ n3_ n4_ n5_ n6_ n7_ n8_ n9_;(try clear hb);(try clear hb2);(try clear hk);(try clear hi)))
                  go_ret
                  exact ⟨by first | rfl | (simp [errW_none,errW_some] <;> rfl) | (simp [*,errW_none,errW_some] <;> rfl),(zY0 HB.out)⟩
            ·rw [if_neg c123] at H
             have c123b0 : (t320 == t318) = false:=beq_eq_false_iff_ne.mpr c123
             have c123b1 : (t320 != t318) = true:=bne_iff_ne.mpr c123
             obtain rfl:=Option.some.inj H
             have hnb194:=NB303_278.out
             have hnc194:=NB278_303.out
             have hnb195:=NB303_291.out
             have hnc195:=NB291_303.out
             have hnb196:=NB303_295.out
             have hnc196:=NB295_303.out
             have hcz197_0 : wc.cell? ⟨gb303,0,none⟩ = some (.slice Ao47 t299.length co47):=(blk_cell BK303.out 0).trans rfl
             have hfz197_0:=blk_frozen BK303.out 0
             go_wp2_with (first | ((with_reducible refine gate_callee (f:=32) rfl ?_);refine goesL_ (some 85) rfl rfl Try.func32 (by kernel_rfl) rfl #[.agg #[.slice Ao47 t299.length co47],.int .i64 1] rfl zM0 ?_;(with_reducible refine (laws_markDisk.calls kj78 (fun k_ => some k_ = (.slice Ao47 t299.length co47 : Value).ownBlock) (.slice Ao47 t299.length co47) t299 1 t318 t319 w _ ?side1 ?side2 A113.out).mono ?_);(case side1 => repeat (first | (with_reducible first | exact HB.out | apply below_alloc | apply pw_below_drewN | apply below_drew1 | refine below_set ?_ GE278.out | refine below_set ?_ GE291.out | refine below_set ?_ GE295.out | refine below_set ?_ GE303.out) | exact HB.out));(case side2 => exact Kd.R_tight rfl HO_304000.out);rintro e w198 ⟨rfl,hy0,hb,hkp⟩;refine ⟨_,rfl,?_⟩;have n0_:=Aside0.mk (Kd.R_mono (ok':=fun k_ => some k_ ≠ (.slice Ao38 t314.length co38 : Value).ownBlock ∧ some k_ ≠ (.slice Ao47 t299.length co47 : Value).ownBlock) (Kd.R_keptB (HO_292000.out) hkp (fun k_ hk_ hs_ => (hk_.2) hs_)) (fun k_ hk_ => ⟨hk_.1.1,hk_.1.2⟩));have n1_:=Aside0.mk (Kd.R_mono (ok':=fun k_ => some k_ ≠ (.slice Ao32 t287.length co32 : Value).ownBlock ∧ some k_ ≠ (.slice Ao47 t299.length co47 : Value).ownBlock) (Kd.R_keptB (HO_296000.out) hkp (fun k_ hk_ hs_ => (hk_.2) hs_)) (fun k_ hk_ => ⟨hk_.1.1,hk_.1.2⟩));have n2_:=Aside0.mk (Kd.R_reok rfl hy0 (fun k_ e_ => HO_304000.out.1 k_ e_));have n3_:=Aside0.mk (blk_kept (zK0 BK278.out) hkp (fun hs_ => (fun e_ => (Kd.R_ne HO_304000.out BK278.out (by decide)) e_) hs_));have n4_:=Aside0.mk (blk_kept (zK0 BK291.out) hkp (fun hs_ => (fun e_ => (Kd.R_ne HO_304000.out BK291.out (by decide)) e_) hs_));have n5_:=Aside0.mk (blk_kept (zK0 BK295.out) hkp (fun hs_ => (fun e_ => (Kd.R_ne HO_304000.out BK295.out (by decide)) e_) hs_));have n6_:=Aside0.mk (blk_kept (zK0 BK303.out) hkp (fun hs_ => (fun e_ => (Kd.R_ne HO_304000.out BK303.out (by decide)) e_) hs_));have n7_:=Aside0.mk (hb);clear HO_292000;clear HO_296000;clear HO_304000;clear BK278;clear BK291;clear BK295;clear BK303;clear HB;have HO_292000:=n0_;have HO_296000:=n1_;have HO_304000:=n2_;have BK278:=n3_;have BK291:=n4_;have BK295:=n5_;have BK303:=n6_;have HB:=n7_;clear n0_ n1_ n2_ n3_ n4_ n5_ n6_ n7_;(try clear hb);(try clear hkp);(try clear hy0);have hcz199_0 : w198.cell? ⟨gb303,0,none⟩ = some (.slice Ao47 t299.length co47):=(blk_cell BK303.out 0).trans rfl;have hfz199_0:=blk_frozen BK303.out 0) | ((with_reducible refine gate_callee (f:=34) rfl ?_);refine goesL_ (some 88) rfl rfl Try.func34 (by kernel_rfl) rfl #[.agg #[.slice Ao47 t319.length co47],.int .i64 1] rfl (by (try simp only [List.map_toArray,List.map_cons,List.map_nil]);first | done | (rw [show t319.length = t299.length from (Kd.R_reads' HO_304000.out).1.symm] <;> rfl) | rfl | (simp only [List.length_drop,List.length_take];rfl)) ?_;(with_reducible refine (laws_heldDisk.calls kj78 _ _ t319 1 t320 _ ?side1 ?side2 A114.out).mono ?_);(case side1 => repeat (first | exact (Kd.R_reads' HO_304000.out).2.2 | (with_reducible refine Kd.C_alloc ?_ _) | (with_reducible refine Kd.C_drewN ?_ _) | (with_reducible refine Kd.C_drew ?_)));(case side2 => rw [show t319.length = t299.length from (Kd.R_reads' HO_304000.out).1.symm];exact (Kd.R_reads' HO_304000.out).2.1);rintro e w200 ⟨rfl,hb⟩;refine ⟨_,rfl,?_⟩;have n0_:=Aside0.mk (Kd.R_below (zR0 HO_292000.out) hb);have n1_:=Aside0.mk (Kd.R_below (zR0 HO_296000.out) hb);have n2_:=Aside0.mk (Kd.R_below (zR0 HO_304000.out) hb);have n3_:=Aside0.mk (zB0 BK278.out hb);have n4_:=Aside0.mk (zB0 BK291.out hb);have n5_:=Aside0.mk (zB0 BK295.out hb);have n6_:=Aside0.mk (zB0 BK303.out hb);have n7_:=Aside0.mk (zS0 HB.out hb);clear HO_292000;clear HO_296000;clear HO_304000;clear BK278;clear BK291;clear BK295;clear BK303;clear HB;have HO_292000:=n0_;have HO_296000:=n1_;have HO_304000:=n2_;have BK278:=n3_;have BK291:=n4_;have BK295:=n5_;have BK303:=n6_;have HB:=n7_;clear n0_ n1_ n2_ n3_ n4_ n5_ n6_ n7_;(try clear hb);(try clear hb2);(try clear hk);(try clear hi)))
             go_ret
             exact ⟨by first | rfl | (simp [errW_none,errW_some] <;> rfl) | (simp [*,errW_none,errW_some] <;> rfl),(zY0 HB.out)⟩
       ·replace c76:=Bool.eq_false_iff.mpr c76
        subst c76
        have H1 : (some false) = some r:=by rw [if_neg (show ¬ (false = true) by decide)] at H;exact H
        exact absurd (H1.trans (congrArg some hrt)) (by first | simp | (cases kj126 <;> simp [laws_FnExactDoActs.j0,laws_FnExactDoActs.j1,laws_FnExactDoActs.j2]) | (cases kj78 <;> simp [laws_FnExactDoActs.j0,laws_FnExactDoActs.j1,laws_FnExactDoActs.j2]) | (cases kj19 <;> simp [laws_FnExactDoActs.j0,laws_FnExactDoActs.j1,laws_FnExactDoActs.j2]) | (cases k <;> simp [laws_FnExactDoActs.j0,laws_FnExactDoActs.j1,laws_FnExactDoActs.j2]))
      ·replace c73:=Bool.eq_false_iff.mpr c73
       subst c73
       have H1 : (some false) = some r:=by rw [if_neg (show ¬ (false = true) by decide)] at H;exact H
       exact absurd (H1.trans (congrArg some hrt)) (by first | simp | (cases kj126 <;> simp [laws_FnExactDoActs.j0,laws_FnExactDoActs.j1,laws_FnExactDoActs.j2]) | (cases kj78 <;> simp [laws_FnExactDoActs.j0,laws_FnExactDoActs.j1,laws_FnExactDoActs.j2]) | (cases kj19 <;> simp [laws_FnExactDoActs.j0,laws_FnExactDoActs.j1,laws_FnExactDoActs.j2]) | (cases k <;> simp [laws_FnExactDoActs.j0,laws_FnExactDoActs.j1,laws_FnExactDoActs.j2]))end Go.Proofs.Ytgfacdhkamphiaa.PFnExactDoActs
