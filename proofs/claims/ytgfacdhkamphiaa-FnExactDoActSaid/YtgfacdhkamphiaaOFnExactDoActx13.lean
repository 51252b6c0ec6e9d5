/- Walks of functions that the law FnExactDoAct reaches, turned by this session from a print of which a part did not build; what was changed is listed in wip/patches of the proofs' repo. -/
import Derived.Test.YtgfacdhkamphiaaOFnExactDoActx0
import Derived.Test.YtgfacdhkamphiaaOFnExactDoActx1
import Derived.Test.YtgfacdhkamphiaaOFnExactDoActx2
import Derived.Test.YtgfacdhkamphiaaOFnExactDoActx3
import Derived.Test.YtgfacdhkamphiaaOFnExactDoActx4
import Derived.Test.YtgfacdhkamphiaaOFnExactDoActx8
import Derived.Test.YtgfacdhkamphiaaOFnExactDoActx9
import Derived.Test.YtgfacdhkamphiaaOFnExactDoActx12
namespace Go.Proofs.Ytgfacdhkamphiaa.PFnExactDoAct
open Go.RowKit Go.Proofs.YtgfacdhkamphiaaW.PrintWords Go.Proofs.YtgfacdhkamphiaaW.PrintLast Go.Proofs.YtgfacdhkamphiaaW.PrintMore
attribute [local go_sem] max2_int min2_int max_two min_two max_three min_three max_four min_four   -- for this text's walks alone
set_option linter.unusedVariables false
set_option linter.unusedSimpArgs false

/-! ### laws_FnExactDoAct: function 7 -/
mutual
def laws_FnExactDoAct.j0 : Nat → Bool → Bool → Bool → List (S134) → Int → ByteArray → ByteArray → ByteArray → List (S45) → List (S45) → List (S45) → Option (Bool)
 | 0,_,_,_,_,_,_,_,_,_,_,_ => none
 | k + 1,x7,x10,x51,x228000,x229000,x229001,x229002,x229003,x243000,x247000,x256000 => if x51 = true then (some false) else ((laws_toDisk.f k x228000).bind fun t257 => ((laws_eqDisk.f k x247000 t257).bind fun t260 => (if t260 = true then ((laws_markDisk.f k x247000 1).bind fun bt261 => (if bt261.1 < 0 then (laws_FnExactDoAct.j1 k x7 true x228000 x229000 x229001 x229002 x229003 x243000 x256000) else ((laws_eqDisk.f k x256000 x243000).bind fun t263 => (if t263 = true then (laws_FnExactDoAct.j1 k x7 (x10 != x7) x228000 x229000 x229001 x229002 x229003 x243000 x256000) else (laws_FnExactDoAct.j1 k x7 true x228000 x229000 x229001 x229002 x229003 x243000 x256000))))) else (some false))))
def laws_FnExactDoAct.j1 : Nat → Bool → Bool → List (S134) → Int → ByteArray → ByteArray → ByteArray → List (S45) → List (S45) → Option (Bool)
 | 0,_,_,_,_,_,_,_,_,_ => none
 | k + 1,x7,x72,x228000,x229000,x229001,x229002,x229003,x243000,x256000 => if x72 = true then (some false) else ((laws_markDisk.f k x256000 1).bind fun bt264 => ((laws_heldDisk.f k bt264.2 1).bind fun t266 => (if t266 < 0 then (some false) else (if t266 = bt264.1 then ((laws_toDisk.f k x228000).bind fun t267 => ((laws_toAct.f x229000 x229001 x229002 x229003).bind fun bt270 => ((impl_DoAct.f k t267 bt270.1 bt270.2.1 bt270.2.2.1 bt270.2.2.2).bind fun bt274 => ((laws_eqDisk.f k bt274.1 x243000).bind fun t279 => (if t279 = true then (laws_FnExactDoAct.j2 k bt264.1 (bt274.2 != x7) bt264.2) else (laws_FnExactDoAct.j2 k bt264.1 true bt264.2)))))) else (some false)))))
def laws_FnExactDoAct.j2 : Nat → Int → Bool → List (S45) → Option (Bool)
 | 0,_,_,_ => none
 | k + 1,x12,x100,x256000 => if x100 = true then (some false) else ((laws_heldDisk.f k x256000 1).bind fun t280 => (if t280 < 0 then (some false) else (if t280 = x12 then (some true) else (some false))))
end
def laws_FnExactDoAct.f (k : Nat) (l0_0 : List (S134)) (a1_0 : Int) (a1_1 : ByteArray) (a1_2 : ByteArray) (a1_3 : ByteArray) : Option (Bool):=(laws_szDisk.f k l0_0 1048576).bind fun t229 => (if t229 < 0 then (some true) else ((laws_szAct.f a1_0 a1_1 a1_2 a1_3 t229).bind fun t230 => (if t230 < 0 then (some true) else ((laws_toDisk.f k l0_0).bind fun t231 => ((laws_toAct.f a1_0 a1_1 a1_2 a1_3).bind fun bt234 => ((spec_DoAct.f k t231 bt234.1 bt234.2.1 bt234.2.2.1 bt234.2.2.2).bind fun bt238 => ((laws_toDisk.f k l0_0).bind fun t243 => ((laws_toAct.f a1_0 a1_1 a1_2 a1_3).bind fun bt247 => ((impl_DoAct.f k t243 bt247.1 bt247.2.1 bt247.2.2.1 bt247.2.2.2).bind fun bt251 => ((laws_eqDisk.f k bt251.1 bt238.1).bind fun t256 => (if t256 = true then (laws_FnExactDoAct.j0 k bt238.2 bt251.2 (bt251.2 != bt238.2) l0_0 a1_0 a1_1 a1_2 a1_3 bt238.1 t243 bt251.1) else (laws_FnExactDoAct.j0 k bt238.2 bt251.2 true l0_0 a1_0 a1_1 a1_2 a1_3 bt238.1 t243 bt251.1))))))))))))
theorem laws_FnExactDoAct.mono_l : ∀ k,(∀ y0 y1 y2 y3 y4 y5 y6 y7 y8 y9 y10,LeO (laws_FnExactDoAct.j0 k y0 y1 y2 y3 y4 y5 y6 y7 y8 y9 y10) (laws_FnExactDoAct.j0 (k + 1) y0 y1 y2 y3 y4 y5 y6 y7 y8 y9 y10)) ∧ (∀ y0 y1 y2 y3 y4 y5 y6 y7 y8,LeO (laws_FnExactDoAct.j1 k y0 y1 y2 y3 y4 y5 y6 y7 y8) (laws_FnExactDoAct.j1 (k + 1) y0 y1 y2 y3 y4 y5 y6 y7 y8)) ∧ (∀ y0 y1 y2,LeO (laws_FnExactDoAct.j2 k y0 y1 y2) (laws_FnExactDoAct.j2 (k + 1) y0 y1 y2))
 | 0 => ⟨fun _ _ _ _ _ _ _ _ _ _ _ r h => by simp [laws_FnExactDoAct.j0] at h,fun _ _ _ _ _ _ _ _ _ r h => by simp [laws_FnExactDoAct.j1] at h,fun _ _ _ r h => by simp [laws_FnExactDoAct.j2] at h⟩
 | k + 1 => by
  obtain ⟨ih0,ih1,ih2⟩:=laws_FnExactDoAct.mono_l k
  refine ⟨?_,?_,?_⟩
  ·intro y0 y1 y2 y3 y4 y5 y6 y7 y8 y9 y10
   unfold laws_FnExactDoAct.j0
   repeat' first
   | (with_reducible exact ih0 _ _ _ _ _ _ _ _ _ _ _)
   | (with_reducible exact ih1 _ _ _ _ _ _ _ _ _)
   | (with_reducible exact ih2 _ _ _)
   | (with_reducible exact impl_DoAct.mono _ _ _ _ _ _)
   | (with_reducible exact laws_eqDisk.mono _ _ _)
   | (with_reducible exact laws_heldDisk.mono _ _ _)
   | (with_reducible exact laws_markDisk.mono _ _ _)
   | (with_reducible exact laws_szDisk.mono _ _ _)
   | (with_reducible exact laws_toDisk.mono _ _)
   | (with_reducible exact spec_DoAct.mono _ _ _ _ _ _)
   | (with_reducible exact LeO.refl _)
   | (with_reducible exact LeO.none _)
   | (with_reducible refine LeO.ite ?_ ?_)
   | (with_reducible refine LeO.bind ?_ (fun _ => ?_))
   | exact ih0 _ _ _ _ _ _ _ _ _ _ _
   | exact ih1 _ _ _ _ _ _ _ _ _
   | exact ih2 _ _ _
   | exact impl_DoAct.mono _ _ _ _ _ _
   | exact laws_eqDisk.mono _ _ _
   | exact laws_heldDisk.mono _ _ _
   | exact laws_markDisk.mono _ _ _
   | exact laws_szDisk.mono _ _ _
   | exact laws_toDisk.mono _ _
   | exact spec_DoAct.mono _ _ _ _ _ _
   | exact LeO.none _
   | refine LeO.ite ?_ ?_
   | refine LeO.bind ?_ (fun _ => ?_)
  ·intro y0 y1 y2 y3 y4 y5 y6 y7 y8
   unfold laws_FnExactDoAct.j1
   repeat' first
   | (with_reducible exact ih0 _ _ _ _ _ _ _ _ _ _ _)
   | (with_reducible exact ih1 _ _ _ _ _ _ _ _ _)
   | (with_reducible exact ih2 _ _ _)
   | (with_reducible exact impl_DoAct.mono _ _ _ _ _ _)
   | (with_reducible exact laws_eqDisk.mono _ _ _)
   | (with_reducible exact laws_heldDisk.mono _ _ _)
   | (with_reducible exact laws_markDisk.mono _ _ _)
   | (with_reducible exact laws_szDisk.mono _ _ _)
   | (with_reducible exact laws_toDisk.mono _ _)
   | (with_reducible exact spec_DoAct.mono _ _ _ _ _ _)
   | (with_reducible exact LeO.refl _)
   | (with_reducible exact LeO.none _)
   | (with_reducible refine LeO.ite ?_ ?_)
   | (with_reducible refine LeO.bind ?_ (fun _ => ?_))
   | exact ih0 _ _ _ _ _ _ _ _ _ _ _
   | exact ih1 _ _ _ _ _ _ _ _ _
   | exact ih2 _ _ _
   | exact impl_DoAct.mono _ _ _ _ _ _
   | exact laws_eqDisk.mono _ _ _
   | exact laws_heldDisk.mono _ _ _
   | exact laws_markDisk.mono _ _ _
   | exact laws_szDisk.mono _ _ _
   | exact laws_toDisk.mono _ _
   | exact spec_DoAct.mono _ _ _ _ _ _
   | exact LeO.none _
   | refine LeO.ite ?_ ?_
   | refine LeO.bind ?_ (fun _ => ?_)
  ·intro y0 y1 y2
   unfold laws_FnExactDoAct.j2
   repeat' first
   | (with_reducible exact ih0 _ _ _ _ _ _ _ _ _ _ _)
   | (with_reducible exact ih1 _ _ _ _ _ _ _ _ _)
   | (with_reducible exact ih2 _ _ _)
   | (with_reducible exact impl_DoAct.mono _ _ _ _ _ _)
   | (with_reducible exact laws_eqDisk.mono _ _ _)
   | (with_reducible exact laws_heldDisk.mono _ _ _)
   | (with_reducible exact laws_markDisk.mono _ _ _)
   | (with_reducible exact laws_szDisk.mono _ _ _)
   | (with_reducible exact laws_toDisk.mono _ _)
   | (with_reducible exact spec_DoAct.mono _ _ _ _ _ _)
   | (with_reducible exact LeO.refl _)
   | (with_reducible exact LeO.none _)
   | (with_reducible refine LeO.ite ?_ ?_)
   | (with_reducible refine LeO.bind ?_ (fun _ => ?_))
   | exact ih0 _ _ _ _ _ _ _ _ _ _ _
   | exact ih1 _ _ _ _ _ _ _ _ _
   | exact ih2 _ _ _
   | exact impl_DoAct.mono _ _ _ _ _ _
   | exact laws_eqDisk.mono _ _ _
   | exact laws_heldDisk.mono _ _ _
   | exact laws_markDisk.mono _ _ _
   | exact laws_szDisk.mono _ _ _
   | exact laws_toDisk.mono _ _
   | exact spec_DoAct.mono _ _ _ _ _ _
   | exact LeO.none _
   | refine LeO.ite ?_ ?_
   | refine LeO.bind ?_ (fun _ => ?_)
theorem laws_FnExactDoAct.mono : ∀ a0 a1 a2 a3 a4 k,LeO (laws_FnExactDoAct.f k a0 a1 a2 a3 a4) (laws_FnExactDoAct.f (k + 1) a0 a1 a2 a3 a4):=by
 intro a0 a1 a2 a3 a4 k
 obtain ⟨ih0,ih1,ih2⟩:=laws_FnExactDoAct.mono_l k
 unfold laws_FnExactDoAct.f
 repeat' first
   | (with_reducible exact ih0 _ _ _ _ _ _ _ _ _ _ _)
   | (with_reducible exact ih1 _ _ _ _ _ _ _ _ _)
   | (with_reducible exact ih2 _ _ _)
   | (with_reducible exact impl_DoAct.mono _ _ _ _ _ _)
   | (with_reducible exact laws_eqDisk.mono _ _ _)
   | (with_reducible exact laws_heldDisk.mono _ _ _)
   | (with_reducible exact laws_markDisk.mono _ _ _)
   | (with_reducible exact laws_szDisk.mono _ _ _)
   | (with_reducible exact laws_toDisk.mono _ _)
   | (with_reducible exact spec_DoAct.mono _ _ _ _ _ _)
   | (with_reducible exact LeO.refl _)
   | (with_reducible exact LeO.none _)
   | (with_reducible refine LeO.ite ?_ ?_)
   | (with_reducible refine LeO.bind ?_ (fun _ => ?_))
   | exact ih0 _ _ _ _ _ _ _ _ _ _ _
   | exact ih1 _ _ _ _ _ _ _ _ _
   | exact ih2 _ _ _
   | exact impl_DoAct.mono _ _ _ _ _ _
   | exact laws_eqDisk.mono _ _ _
   | exact laws_heldDisk.mono _ _ _
   | exact laws_markDisk.mono _ _ _
   | exact laws_szDisk.mono _ _ _
   | exact laws_toDisk.mono _ _
   | exact spec_DoAct.mono _ _ _ _ _ _
   | exact LeO.none _
   | refine LeO.ite ?_ ?_
   | refine LeO.bind ?_ (fun _ => ?_)
def laws_FnExactDoAct.T8 : Bool × List (List Nat × List Nat):=(true,[([],[]),([0],[0]),([],[]),([2,1],[2]),([1,3,3],[1,3]),([4],[4]),([5],[5]),([5],[5]),([],[]),([8,6,4,0,1,2,3,4,5,6,8],[6,8]),([7,9,0,1,2,3,4,5,6,7,8,9],[7])])
def laws_FnExactDoAct.B8 : List Nat:=[0,1,0,7,15,31,63,63,0,383,1023]
theorem laws_FnExactDoAct.tab8 : rtab .any (opsOf Try.f7 8) = laws_FnExactDoAct.T8:=by kernel_rfl
theorem laws_FnExactDoAct.bits8 : waitsOk laws_FnExactDoAct.T8.2 laws_FnExactDoAct.B8 = true:=by kernel_rfl
def laws_FnExactDoAct.T10 : Bool × List (List Nat × List Nat):=(true,[([],[]),([],[]),([1],[1]),([0,2,2],[0,2]),([3],[3]),([4],[4]),([4],[4]),([],[]),([7,5,3,0,1,2,3,4,5,7],[5,7]),([6,8,0,1,2,3,4,5,6,7,8],[6])])
def laws_FnExactDoAct.B10 : List Nat:=[0,0,2,7,15,31,31,0,191,511]
theorem laws_FnExactDoAct.tab10 : rtab .any (opsOf Try.f7 10) = laws_FnExactDoAct.T10:=by kernel_rfl
theorem laws_FnExactDoAct.bits10 : waitsOk laws_FnExactDoAct.T10.2 laws_FnExactDoAct.B10 = true:=by kernel_rfl
def laws_FnExactDoAct.T27 : Bool × List (List Nat × List Nat):=(true,[([],[]),([0],[0]),([],[]),([2,1],[2]),([1,3,3],[1,3]),([4],[4]),([5],[5]),([5],[5]),([],[]),([8,6,4,0,1,2,3,4,5,6,8],[6,8]),([7,9,0,1,2,3,4,5,6,7,8,9],[7])])
def laws_FnExactDoAct.B27 : List Nat:=[0,1,0,7,15,31,63,63,0,383,1023]
theorem laws_FnExactDoAct.tab27 : rtab .any (opsOf Try.f7 27) = laws_FnExactDoAct.T27:=by kernel_rfl
theorem laws_FnExactDoAct.bits27 : waitsOk laws_FnExactDoAct.T27.2 laws_FnExactDoAct.B27 = true:=by kernel_rfl
set_option maxHeartbeats 8000000 in
set_option maxRecDepth 100000 in
theorem laws_FnExactDoAct.calls (k : Nat) (A0_0 : Option Addr) (c0_0 : Nat) (l0_0 : List (S134)) (a1_0 : Int) (a1_1 : ByteArray) (a1_2 : ByteArray) (a1_3 : ByteArray) (r : Bool) (w : World) (hr0_0 : Kd.C k134 w A0_0 l0_0.length l0_0) (hc0_0 : l0_0.length ≤ c0_0) (h : laws_FnExactDoAct.f k l0_0 a1_0 a1_1 a1_2 a1_3 = some r) (hrt : r = true) :
  Calls Try.prog 7 #[.agg #[.slice A0_0 l0_0.length c0_0],.agg #[.int .i64 a1_0,.string a1_1,.string a1_2,.string a1_3]] w fun e w' => e = .returned (.bool r) ∧ Below w.heap.size w w':=by
 have hu24:=Try.underlying24
 have hu52:=Try.underlying52
 have hu30:=Try.underlying30
 have HR0_0:=Aside0.mk hr0_0
 have HC0_0:=Aside0.mk hc0_0
 clear hr0_0 hc0_0
 have HB:=Aside0.mk (Below.refl w.heap.size w)
 have H : ((laws_szDisk.f k l0_0 1048576).bind fun t229 => (if t229 < 0 then (some true) else ((laws_szAct.f a1_0 a1_1 a1_2 a1_3 t229).bind fun t230 => (if t230 < 0 then (some true) else ((laws_toDisk.f k l0_0).bind fun t231 => ((laws_toAct.f a1_0 a1_1 a1_2 a1_3).bind fun bt234 => ((spec_DoAct.f k t231 bt234.1 bt234.2.1 bt234.2.2.1 bt234.2.2.2).bind fun bt238 => ((laws_toDisk.f k l0_0).bind fun t243 => ((laws_toAct.f a1_0 a1_1 a1_2 a1_3).bind fun bt247 => ((impl_DoAct.f k t243 bt247.1 bt247.2.1 bt247.2.2.1 bt247.2.2.2).bind fun bt251 => ((laws_eqDisk.f k bt251.1 bt238.1).bind fun t256 => (if t256 = true then (laws_FnExactDoAct.j0 k bt238.2 bt251.2 (bt251.2 != bt238.2) l0_0 a1_0 a1_1 a1_2 a1_3 bt238.1 t243 bt251.1) else (laws_FnExactDoAct.j0 k bt238.2 bt251.2 true l0_0 a1_0 a1_1 a1_2 a1_3 bt238.1 t243 bt251.1))))))))))))) = some r:=h
 clear h
 replace H:=Option.bind_eq_some_iff.mp H
 obtain ⟨t229,A30,H⟩:=H
 replace H : (if t229 < 0 then (some true) else ((laws_szAct.f a1_0 a1_1 a1_2 a1_3 t229).bind fun t230 => (if t230 < 0 then (some true) else ((laws_toDisk.f k l0_0).bind fun t231 => ((laws_toAct.f a1_0 a1_1 a1_2 a1_3).bind fun bt234 => ((spec_DoAct.f k t231 bt234.1 bt234.2.1 bt234.2.2.1 bt234.2.2.2).bind fun bt238 => ((laws_toDisk.f k l0_0).bind fun t243 => ((laws_toAct.f a1_0 a1_1 a1_2 a1_3).bind fun bt247 => ((impl_DoAct.f k t243 bt247.1 bt247.2.1 bt247.2.2.1 bt247.2.2.2).bind fun bt251 => ((laws_eqDisk.f k bt251.1 bt238.1).bind fun t256 => (if t256 = true then (laws_FnExactDoAct.j0 k bt238.2 bt251.2 (bt251.2 != bt238.2) l0_0 a1_0 a1_1 a1_2 a1_3 bt238.1 t243 bt251.1) else (laws_FnExactDoAct.j0 k bt238.2 bt251.2 true l0_0 a1_0 a1_1 a1_2 a1_3 bt238.1 t243 bt251.1)))))))))))) = some r:=H
 have A3:=Aside0.mk A30
 clear A30
 by_cases c4 : t229 < 0
 ·rw [if_pos c4] at H
  have c4b0 : decide (t229 < 0) = true:=decide_eq_true c4
  clear c4
  obtain rfl:=Option.some.inj H
  go_enter Try.func7,Try.ntmps7
  go_wp2_with (first | ((with_reducible refine gate_dst (N:=2) rfl ?_);refine box_event ?hg (N:=2) ?hd (cs:=#[.slice A0_0 l0_0.length c0_0]) (t:=24) ?hr ?_;(case hd => rfl);(case hg => rfl);(case hr => first | (go_simp;done) | (go_simp;rfl));intro gb227 hg w5 hbox hb;have n0_:=Aside0.mk (zS0 HB.out hb);have n1_:=Aside0.mk (hbox);have n2_:=Aside0.mk ((by rw [hg];exact (zZ0 HB.out) : w.heap.size ≤ gb227));have n3_:=Aside0.mk ((by rw [hg];exact (zZ0 HB.out) : w.heap.size ≤ gb227));clear HB;have HB:=n0_;have BK227:=n1_;have GW227:=n2_;have GE227:=n3_;clear n0_ n1_ n2_ n3_;clear hb hbox hg) | ((with_reducible refine gate_dst (N:=3) rfl ?_);refine box_event ?hg (N:=3) ?hd (cs:=#[.int .i64 a1_0,.string a1_1,.string a1_2,.string a1_3]) (t:=52) ?hr ?_;(case hd => rfl);(case hg => rfl);(case hr => first | (go_simp;done) | (go_simp;rfl));intro gb228 hg w6 hbox hb;have n0_:=Aside0.mk (zB0 BK227.out hb);have n1_:=Aside0.mk (zS0 HB.out hb);have n2_:=Aside0.mk (hbox);have n3_:=Aside0.mk ((by rw [hg];exact (zZ0 HB.out) : w.heap.size ≤ gb228));have n4_:=Aside0.mk ((by rw [hg];exact (zZ0 HB.out) : w.heap.size ≤ gb228));have n5_:=Aside0.mk ((zL0 hg BK227.out : gb227 ≠ gb228));have n6_:=Aside0.mk ((zG0 hg BK227.out : gb228 ≠ gb227));clear BK227;clear HB;have BK227:=n0_;have HB:=n1_;have BK228:=n2_;have GW228:=n3_;have GE228:=n4_;have NB227_228:=n5_;have NB228_227:=n6_;clear n0_ n1_ n2_ n3_ n4_ n5_ n6_;clear hb hbox hg;have hnb7:=NB227_228.out;have hnc7:=NB228_227.out;have hcz8_0 : w6.cell? ⟨gb227,0,none⟩ = some (.slice A0_0 l0_0.length c0_0):=(blk_cell BK227.out 0).trans rfl;have hfz8_0:=blk_frozen BK227.out 0) | ((with_reducible refine gate_callee (f:=14) rfl ?_);refine goesL_ (some 18) rfl rfl Try.func14 (by kernel_rfl) rfl #[.agg #[.slice A0_0 l0_0.length c0_0],.int .i64 1048576] rfl zM0 ?_;(with_reducible refine (laws_szDisk.calls k _ _ l0_0 1048576 t229 _ ?side1 ?side2 A3.out).mono ?_);(case side1 => repeat (first | exact (Kd.C_below HR0_0.out HB.out) | (with_reducible refine Kd.C_alloc ?_ _) | (with_reducible refine Kd.C_drewN ?_ _) | (with_reducible refine Kd.C_drew ?_)));(case side2 => exact HC0_0.out);rintro e w9 ⟨rfl,hb⟩;refine ⟨_,rfl,?_⟩;have n0_:=Aside0.mk (zB0 BK227.out hb);have n1_:=Aside0.mk (zB0 BK228.out hb);have n2_:=Aside0.mk (zS0 HB.out hb);clear BK227;clear BK228;clear HB;have BK227:=n0_;have BK228:=n1_;have HB:=n2_;clear n0_ n1_ n2_;(try clear hb);(try clear hb2);(try clear hk);(try clear hi)))
  go_ret
  exact ⟨by first | rfl | (simp [errW_none,errW_some] <;> rfl) | (simp [*,errW_none,errW_some] <;> rfl),by repeat (first | (with_reducible first | exact HB.out | apply below_alloc | apply pw_below_drewN | apply below_drew1 | refine below_set ?_ GE227.out | refine below_set ?_ GE228.out) | exact HB.out)⟩
 ·rw [if_neg c4] at H
  have c4b0 : decide (t229 < 0) = false:=decide_eq_false c4
  clear c4
  replace H:=Option.bind_eq_some_iff.mp H
  obtain ⟨t230,A100,H⟩:=H
  replace H : (if t230 < 0 then (some true) else ((laws_toDisk.f k l0_0).bind fun t231 => ((laws_toAct.f a1_0 a1_1 a1_2 a1_3).bind fun bt234 => ((spec_DoAct.f k t231 bt234.1 bt234.2.1 bt234.2.2.1 bt234.2.2.2).bind fun bt238 => ((laws_toDisk.f k l0_0).bind fun t243 => ((laws_toAct.f a1_0 a1_1 a1_2 a1_3).bind fun bt247 => ((impl_DoAct.f k t243 bt247.1 bt247.2.1 bt247.2.2.1 bt247.2.2.2).bind fun bt251 => ((laws_eqDisk.f k bt251.1 bt238.1).bind fun t256 => (if t256 = true then (laws_FnExactDoAct.j0 k bt238.2 bt251.2 (bt251.2 != bt238.2) l0_0 a1_0 a1_1 a1_2 a1_3 bt238.1 t243 bt251.1) else (laws_FnExactDoAct.j0 k bt238.2 bt251.2 true l0_0 a1_0 a1_1 a1_2 a1_3 bt238.1 t243 bt251.1)))))))))) = some r:=H
  have A10:=Aside0.mk A100
  clear A100
  by_cases c11 : t230 < 0
  ·rw [if_pos c11] at H
   have c11b0 : decide (t230 < 0) = true:=decide_eq_true c11
   clear c11
   obtain rfl:=Option.some.inj H
   go_enter Try.func7,Try.ntmps7
   go_wp2_with (first | ((with_reducible refine gate_dst (N:=2) rfl ?_);refine box_event ?hg (N:=2) ?hd (cs:=#[.slice A0_0 l0_0.length c0_0]) (t:=24) ?hr ?_;(case hd => rfl);(case hg => rfl);(case hr => first | (go_simp;done) | (go_simp;rfl));intro gb227 hg w12 hbox hb;have n0_:=Aside0.mk (zS0 HB.out hb);have n1_:=Aside0.mk (hbox);have n2_:=Aside0.mk ((by rw [hg];exact (zZ0 HB.out) : w.heap.size ≤ gb227));have n3_:=Aside0.mk ((by rw [hg];exact (zZ0 HB.out) : w.heap.size ≤ gb227));clear HB;have HB:=n0_;have BK227:=n1_;have GW227:=n2_;have GE227:=n3_;clear n0_ n1_ n2_ n3_;clear hb hbox hg) | ((with_reducible refine gate_dst (N:=3) rfl ?_);refine box_event ?hg (N:=3) ?hd (cs:=#[.int .i64 a1_0,.string a1_1,.string a1_2,.string a1_3]) (t:=52) ?hr ?_;(case hd => rfl);(case hg => rfl);(case hr => first | (go_simp;done) | (go_simp;rfl));intro gb228 hg w13 hbox hb;have n0_:=Aside0.mk (zB0 BK227.out hb);have n1_:=Aside0.mk (zS0 HB.out hb);have n2_:=Aside0.mk (hbox);have n3_:=Aside0.mk ((by rw [hg];exact (zZ0 HB.out) : w.heap.size ≤ gb228));have n4_:=Aside0.mk ((by rw [hg];exact (zZ0 HB.out) : w.heap.size ≤ gb228));have n5_:=Aside0.mk ((zL0 hg BK227.out : gb227 ≠ gb228));have n6_:=Aside0.mk ((zG0 hg BK227.out : gb228 ≠ gb227));clear BK227;clear HB;have BK227:=n0_;have HB:=n1_;have BK228:=n2_;have GW228:=n3_;have GE228:=n4_;have NB227_228:=n5_;have NB228_227:=n6_;clear n0_ n1_ n2_ n3_ n4_ n5_ n6_;clear hb hbox hg;have hnb14:=NB227_228.out;have hnc14:=NB228_227.out;have hcz15_0 : w13.cell? ⟨gb227,0,none⟩ = some (.slice A0_0 l0_0.length c0_0):=(blk_cell BK227.out 0).trans rfl;have hfz15_0:=blk_frozen BK227.out 0) | ((with_reducible refine gate_callee (f:=14) rfl ?_);refine goesL_ (some 18) rfl rfl Try.func14 (by kernel_rfl) rfl #[.agg #[.slice A0_0 l0_0.length c0_0],.int .i64 1048576] rfl zM0 ?_;(with_reducible refine (laws_szDisk.calls k _ _ l0_0 1048576 t229 _ ?side1 ?side2 A3.out).mono ?_);(case side1 => repeat (first | exact (Kd.C_below HR0_0.out HB.out) | (with_reducible refine Kd.C_alloc ?_ _) | (with_reducible refine Kd.C_drewN ?_ _) | (with_reducible refine Kd.C_drew ?_)));(case side2 => exact HC0_0.out);rintro e w16 ⟨rfl,hb⟩;refine ⟨_,rfl,?_⟩;have n0_:=Aside0.mk (zB0 BK227.out hb);have n1_:=Aside0.mk (zB0 BK228.out hb);have n2_:=Aside0.mk (zS0 HB.out hb);clear BK227;clear BK228;clear HB;have BK227:=n0_;have BK228:=n1_;have HB:=n2_;clear n0_ n1_ n2_;(try clear hb);(try clear hb2);(try clear hk);(try clear hi);have hcz17_0 : w16.cell? ⟨gb228,0,none⟩ = some (.int .i64 a1_0):=(blk_cell BK228.out 0).trans rfl;have hcz17_1 : w16.cell? ⟨gb228,1,none⟩ = some (.string a1_1):=(blk_cell BK228.out 1).trans rfl;have hcz17_2 : w16.cell? ⟨gb228,2,none⟩ = some (.string a1_2):=(blk_cell BK228.out 2).trans rfl;have hcz17_3 : w16.cell? ⟨gb228,3,none⟩ = some (.string a1_3):=(blk_cell BK228.out 3).trans rfl;have hfz17_0:=blk_frozen BK228.out 0;have hfz17_1:=blk_frozen BK228.out 1;have hfz17_2:=blk_frozen BK228.out 2;have hfz17_3:=blk_frozen BK228.out 3) | ((with_reducible refine gate_callee (f:=35) rfl ?_);refine goesL_ (some 23) rfl rfl Try.func35 (by kernel_rfl) rfl #[.agg #[.int .i64 a1_0,.string a1_1,.string a1_2,.string a1_3],.int .i64 t229] rfl zM0 ?_;(with_reducible refine (laws_szAct.calls a1_0 a1_1 a1_2 a1_3 t229 t230 _ A10.out).mono ?_);rintro e w18 ⟨rfl,hb⟩;refine ⟨_,rfl,?_⟩;have n0_:=Aside0.mk (zB0 BK227.out hb);have n1_:=Aside0.mk (zB0 BK228.out hb);have n2_:=Aside0.mk (zS0 HB.out hb);clear BK227;clear BK228;clear HB;have BK227:=n0_;have BK228:=n1_;have HB:=n2_;clear n0_ n1_ n2_;(try clear hb);(try clear hb2);(try clear hk);(try clear hi)))
   go_ret
   exact ⟨by first | rfl | (simp [errW_none,errW_some] <;> rfl) | (simp [*,errW_none,errW_some] <;> rfl),by repeat (first | (with_reducible first | exact HB.out | apply below_alloc | apply pw_below_drewN | apply below_drew1 | refine below_set ?_ GE227.out | refine below_set ?_ GE228.out) | exact HB.out)⟩
  ·rw [if_neg c11] at H
   have c11b0 : decide (t230 < 0) = false:=decide_eq_false c11
   clear c11
   replace H:=Option.bind_eq_some_iff.mp H
   obtain ⟨t231,A190,H⟩:=H
   replace H : ((laws_toAct.f a1_0 a1_1 a1_2 a1_3).bind fun bt234 => ((spec_DoAct.f k t231 bt234.1 bt234.2.1 bt234.2.2.1 bt234.2.2.2).bind fun bt238 => ((laws_toDisk.f k l0_0).bind fun t243 => ((laws_toAct.f a1_0 a1_1 a1_2 a1_3).bind fun bt247 => ((impl_DoAct.f k t243 bt247.1 bt247.2.1 bt247.2.2.1 bt247.2.2.2).bind fun bt251 => ((laws_eqDisk.f k bt251.1 bt238.1).bind fun t256 => (if t256 = true then (laws_FnExactDoAct.j0 k bt238.2 bt251.2 (bt251.2 != bt238.2) l0_0 a1_0 a1_1 a1_2 a1_3 bt238.1 t243 bt251.1) else (laws_FnExactDoAct.j0 k bt238.2 bt251.2 true l0_0 a1_0 a1_1 a1_2 a1_3 bt238.1 t243 bt251.1)))))))) = some r:=H
   have A19:=Aside0.mk A190
   clear A190
   replace H:=Option.bind_eq_some_iff.mp H
   obtain ⟨⟨t234,t235,t236,t237⟩,A200,H⟩:=H
   replace H : ((spec_DoAct.f k t231 t234 t235 t236 t237).bind fun bt238 => ((laws_toDisk.f k l0_0).bind fun t243 => ((laws_toAct.f a1_0 a1_1 a1_2 a1_3).bind fun bt247 => ((impl_DoAct.f k t243 bt247.1 bt247.2.1 bt247.2.2.1 bt247.2.2.2).bind fun bt251 => ((laws_eqDisk.f k bt251.1 bt238.1).bind fun t256 => (if t256 = true then (laws_FnExactDoAct.j0 k bt238.2 bt251.2 (bt251.2 != bt238.2) l0_0 a1_0 a1_1 a1_2 a1_3 bt238.1 t243 bt251.1) else (laws_FnExactDoAct.j0 k bt238.2 bt251.2 true l0_0 a1_0 a1_1 a1_2 a1_3 bt238.1 t243 bt251.1))))))) = some r:=H
   have A20:=Aside0.mk A200
   clear A200
   replace H:=Option.bind_eq_some_iff.mp H
   obtain ⟨⟨t238,t241⟩,A210,H⟩:=H
   replace H : ((laws_toDisk.f k l0_0).bind fun t243 => ((laws_toAct.f a1_0 a1_1 a1_2 a1_3).bind fun bt247 => ((impl_DoAct.f k t243 bt247.1 bt247.2.1 bt247.2.2.1 bt247.2.2.2).bind fun bt251 => ((laws_eqDisk.f k bt251.1 t238).bind fun t256 => (if t256 = true then (laws_FnExactDoAct.j0 k t241 bt251.2 (bt251.2 != t241) l0_0 a1_0 a1_1 a1_2 a1_3 t238 t243 bt251.1) else (laws_FnExactDoAct.j0 k t241 bt251.2 true l0_0 a1_0 a1_1 a1_2 a1_3 t238 t243 bt251.1)))))) = some r:=H
   have A21:=Aside0.mk A210
   clear A210
   replace H:=Option.bind_eq_some_iff.mp H
   obtain ⟨t243,A220,H⟩:=H
   replace H : ((laws_toAct.f a1_0 a1_1 a1_2 a1_3).bind fun bt247 => ((impl_DoAct.f k t243 bt247.1 bt247.2.1 bt247.2.2.1 bt247.2.2.2).bind fun bt251 => ((laws_eqDisk.f k bt251.1 t238).bind fun t256 => (if t256 = true then (laws_FnExactDoAct.j0 k t241 bt251.2 (bt251.2 != t241) l0_0 a1_0 a1_1 a1_2 a1_3 t238 t243 bt251.1) else (laws_FnExactDoAct.j0 k t241 bt251.2 true l0_0 a1_0 a1_1 a1_2 a1_3 t238 t243 bt251.1))))) = some r:=H
   have A22:=Aside0.mk A220
   clear A220
   replace H:=Option.bind_eq_some_iff.mp H
   obtain ⟨⟨t247,t248,t249,t250⟩,A230,H⟩:=H
   replace H : ((impl_DoAct.f k t243 t247 t248 t249 t250).bind fun bt251 => ((laws_eqDisk.f k bt251.1 t238).bind fun t256 => (if t256 = true then (laws_FnExactDoAct.j0 k t241 bt251.2 (bt251.2 != t241) l0_0 a1_0 a1_1 a1_2 a1_3 t238 t243 bt251.1) else (laws_FnExactDoAct.j0 k t241 bt251.2 true l0_0 a1_0 a1_1 a1_2 a1_3 t238 t243 bt251.1)))) = some r:=H
   have A23:=Aside0.mk A230
   clear A230
   replace H:=Option.bind_eq_some_iff.mp H
   obtain ⟨⟨t251,t254⟩,A240,H⟩:=H
   replace H : ((laws_eqDisk.f k t251 t238).bind fun t256 => (if t256 = true then (laws_FnExactDoAct.j0 k t241 t254 (t254 != t241) l0_0 a1_0 a1_1 a1_2 a1_3 t238 t243 t251) else (laws_FnExactDoAct.j0 k t241 t254 true l0_0 a1_0 a1_1 a1_2 a1_3 t238 t243 t251))) = some r:=H
   have A24:=Aside0.mk A240
   clear A240
   have HC25:=Aside0.mk H
   clear H
   go_enter Try.func7,Try.ntmps7
   try go_wp2_with (first | ((with_reducible refine gate_dst (N:=2) rfl ?_);refine box_event ?hg (N:=2) ?hd (cs:=#[.slice A0_0 l0_0.length c0_0]) (t:=24) ?hr ?_;(case hd => rfl);(case hg => rfl);(case hr => first | (go_simp;done) | (go_simp;rfl));intro gb227 hg w26 hbox hb;have n0_:=Aside0.mk (zS0 HB.out hb);have n1_:=Aside0.mk (hbox);have n2_:=Aside0.mk ((by rw [hg];exact (zZ0 HB.out) : w.heap.size ≤ gb227));have n3_:=Aside0.mk ((by rw [hg];exact (zZ0 HB.out) : w.heap.size ≤ gb227));clear HB;have HB:=n0_;have BK227:=n1_;have GW227:=n2_;have GE227:=n3_;clear n0_ n1_ n2_ n3_;clear hb hbox hg) | ((with_reducible refine gate_dst (N:=3) rfl ?_);refine box_event ?hg (N:=3) ?hd (cs:=#[.int .i64 a1_0,.string a1_1,.string a1_2,.string a1_3]) (t:=52) ?hr ?_;(case hd => rfl);(case hg => rfl);(case hr => first | (go_simp;done) | (go_simp;rfl));intro gb228 hg w27 hbox hb;have n0_:=Aside0.mk (zB0 BK227.out hb);have n1_:=Aside0.mk (zS0 HB.out hb);have n2_:=Aside0.mk (hbox);have n3_:=Aside0.mk ((by rw [hg];exact (zZ0 HB.out) : w.heap.size ≤ gb228));have n4_:=Aside0.mk ((by rw [hg];exact (zZ0 HB.out) : w.heap.size ≤ gb228));have n5_:=Aside0.mk ((zL0 hg BK227.out : gb227 ≠ gb228));have n6_:=Aside0.mk ((zG0 hg BK227.out : gb228 ≠ gb227));clear BK227;clear HB;have BK227:=n0_;have HB:=n1_;have BK228:=n2_;have GW228:=n3_;have GE228:=n4_;have NB227_228:=n5_;have NB228_227:=n6_;clear n0_ n1_ n2_ n3_ n4_ n5_ n6_;clear hb hbox hg;have hnb28:=NB227_228.out;have hnc28:=NB228_227.out;have hcz29_0 : w27.cell? ⟨gb227,0,none⟩ = some (.slice A0_0 l0_0.length c0_0):=(blk_cell BK227.out 0).trans rfl;have hfz29_0:=blk_frozen BK227.out 0) | ((with_reducible refine gate_callee (f:=14) rfl ?_);refine goesL_ (some 18) rfl rfl Try.func14 (by kernel_rfl) rfl #[.agg #[.slice A0_0 l0_0.length c0_0],.int .i64 1048576] rfl zM0 ?_;(with_reducible refine (laws_szDisk.calls k _ _ l0_0 1048576 t229 _ ?side1 ?side2 A3.out).mono ?_);(case side1 => repeat (first | exact (Kd.C_below HR0_0.out HB.out) | (with_reducible refine Kd.C_alloc ?_ _) | (with_reducible refine Kd.C_drewN ?_ _) | (with_reducible refine Kd.C_drew ?_)));(case side2 => exact HC0_0.out);rintro e w30 ⟨rfl,hb⟩;refine ⟨_,rfl,?_⟩;have n0_:=Aside0.mk (zB0 BK227.out hb);have n1_:=Aside0.mk (zB0 BK228.out hb);have n2_:=Aside0.mk (zS0 HB.out hb);clear BK227;clear BK228;clear HB;have BK227:=n0_;have BK228:=n1_;have HB:=n2_;clear n0_ n1_ n2_;(try clear hb);(try clear hb2);(try clear hk);(try clear hi);have hcz31_0 : w30.cell? ⟨gb228,0,none⟩ = some (.int .i64 a1_0):=(blk_cell BK228.out 0).trans rfl;have hcz31_1 : w30.cell? ⟨gb228,1,none⟩ = some (.string a1_1):=(blk_cell BK228.out 1).trans rfl;have hcz31_2 : w30.cell? ⟨gb228,2,none⟩ = some (.string a1_2):=(blk_cell BK228.out 2).trans rfl;have hcz31_3 : w30.cell? ⟨gb228,3,none⟩ = some (.string a1_3):=(blk_cell BK228.out 3).trans rfl;have hfz31_0:=blk_frozen BK228.out 0;have hfz31_1:=blk_frozen BK228.out 1;have hfz31_2:=blk_frozen BK228.out 2;have hfz31_3:=blk_frozen BK228.out 3) | ((with_reducible refine gate_callee (f:=35) rfl ?_);refine goesL_ (some 23) rfl rfl Try.func35 (by kernel_rfl) rfl #[.agg #[.int .i64 a1_0,.string a1_1,.string a1_2,.string a1_3],.int .i64 t229] rfl zM0 ?_;(with_reducible refine (laws_szAct.calls a1_0 a1_1 a1_2 a1_3 t229 t230 _ A10.out).mono ?_);rintro e w32 ⟨rfl,hb⟩;refine ⟨_,rfl,?_⟩;have n0_:=Aside0.mk (zB0 BK227.out hb);have n1_:=Aside0.mk (zB0 BK228.out hb);have n2_:=Aside0.mk (zS0 HB.out hb);clear BK227;clear BK228;clear HB;have BK227:=n0_;have BK228:=n1_;have HB:=n2_;clear n0_ n1_ n2_;(try clear hb);(try clear hb2);(try clear hk);(try clear hi)))
   have n0_:=Aside0.mk (blk_drew BK227.out)
   have n1_:=Aside0.mk (blk_drew BK228.out)
   have n2_:=Aside0.mk (below_drew1 HB.out)
   clear BK227
   clear BK228
   clear HB
   have BK227:=n0_
   have BK228:=n1_
   have HB:=n2_
   clear n0_ n1_ n2_
   refine start_ (n:=11) (S:=fun w' => w'.cell? ⟨gb227,0,none⟩ = some (.slice A0_0 l0_0.length c0_0) ∧ w'.cell? ⟨gb228,0,none⟩ = some (.int .i64 a1_0) ∧ w'.cell? ⟨gb228,1,none⟩ = some (.string a1_1) ∧ w'.cell? ⟨gb228,2,none⟩ = some (.string a1_2) ∧ w'.cell? ⟨gb228,3,none⟩ = some (.string a1_3)) (ds:=[]) (zF0 11 0) (by kernel_rfl) rfl rfl ⟨(blk_cell BK227.out 0).trans rfl,(blk_cell BK228.out 0).trans rfl,(blk_cell BK228.out 1).trans rfl,(blk_cell BK228.out 2).trans rfl,(blk_cell BK228.out 3).trans rfl⟩ (fun hHeld => ?_);refine with_tabW laws_FnExactDoAct.tab8 laws_FnExactDoAct.bits8 (fun HT_ HW_ => ?_)
   generalize w32.drew = w33 at BK227 BK228 HB hHeld ⊢
   refine take_ (i:=0) (N:=some 27) (v:=?_) (a':=?_) (zF0 11 1) rfl rfl (take_ofW HT_.out HW_.out (by kernel_rfl)) (fun _ _ _ h => h) (Or.inl ⟨by rfl,?_⟩) hHeld ?_ ?_;rotate_left
   ·rintro w' ⟨s0,s1,s2,s3,s4⟩
    go_simp
    with_reducible rfl
   rotate_left
   ·simp only [Act.put,qA0,qB0,qC0,i64_w,i32_w];rfl
   refine take_ (i:=2) (N:=some 29) (v:=?_) (a':=?_) (zF0 11 5) rfl rfl (take_ofW HT_.out HW_.out (by kernel_rfl)) (fun _ _ _ h => h) (Or.inl ⟨by rfl,?_⟩) hHeld ?_ ?_;rotate_left
   ·rintro w' ⟨s0,s1,s2,s3,s4⟩
    go_simp
    with_reducible rfl
   rotate_left
   ·simp only [Act.put,qA0,qB0,qC0,i64_w,i32_w];rfl
   refine join_ (σ:=Value × Value × Nat) 2 (zF0 11 511) (fun s_ => [(28,.agg #[s_.1]),(30,.agg #[.int .i64 t234,.string t235,.string t236,.string t237]),(31,.tuple #[.agg #[s_.2.1],.bool t241]),(6,.pointer (some ⟨s_.2.2,0,none⟩)),(26,.tuple #[.agg #[s_.2.1],.bool t241]),(32,.agg #[s_.2.1]),(33,.bool t241)]) (fun s_ w' => (w'.cell? ⟨gb227,0,none⟩ = some (.slice A0_0 l0_0.length c0_0) ∧ w'.cell? ⟨gb228,0,none⟩ = some (.int .i64 a1_0) ∧ w'.cell? ⟨gb228,1,none⟩ = some (.string a1_1) ∧ w'.cell? ⟨gb228,2,none⟩ = some (.string a1_2) ∧ w'.cell? ⟨gb228,3,none⟩ = some (.string a1_3)) ∧ (Kd.R k45 45 w' w.heap.size (fun k_ => some k_ ≠ (s_.2.1 : Value).ownBlock) s_.1 t231) ∧ (Kd.R k45 45 w' w.heap.size (fun k_ => some k_ ≠ (s_.1 : Value).ownBlock) s_.2.1 t238) ∧ (w'.heap[gb227]? = some (.cells #[.slice A0_0 l0_0.length c0_0] 24 (0,0))) ∧ (w'.heap[gb228]? = some (.cells #[.int .i64 a1_0,.string a1_1,.string a1_2,.string a1_3] 52 (0,0))) ∧ (w'.heap[s_.2.2]? = some (.cells #[.slice none 0 0] 30 (0,0))) ∧ (w.heap.size ≤ s_.2.2) ∧ (w.heap.size ≤ s_.2.2) ∧ (gb227 ≠ s_.2.2) ∧ (s_.2.2 ≠ gb227) ∧ (gb228 ≠ s_.2.2) ∧ (s_.2.2 ≠ gb228) ∧ (Below w.heap.size w w')) ?_ ?_
   rotate_left
   ·intro hCont
    refine two_ (i:=1) (j:=8) (Ni:=some 28) (Nj:=some 6) (zF0 11 7) (zF0 11 261) rfl rfl rfl rfl (two_of HT_.out (by kernel_rfl)) (by decide) (by decide) (fun K hK => ?_) (fun K hK => ?_)
    ·skip
     refine goes_ Try.func16 (by kernel_rfl) rfl #[.agg #[.slice A0_0 l0_0.length c0_0]] (by rfl) rfl rfl zM0 ?_
     with_reducible refine (laws_toDisk.calls k _ _ l0_0 t231 _ ?side1 ?side2 A19.out).mono ?_
     (case side1 => repeat (first | exact (Kd.C_below HR0_0.out HB.out) | (with_reducible refine Kd.C_alloc ?_ _) | (with_reducible refine Kd.C_drewN ?_ _) | (with_reducible refine Kd.C_drew ?_)))
     (case side2 => exact HC0_0.out)
     rintro e w34 ⟨v232,rfl,ho0,hb⟩
     refine ⟨_,rfl,?_⟩
     have n0_:=Aside0.mk (Kd.R_lower ho0 (zZ0 HB.out))
     have n1_:=Aside0.mk (zB0 BK227.out hb)
     have n2_:=Aside0.mk (zB0 BK228.out hb)
     have n3_:=Aside0.mk (zS0 HB.out hb)
     clear BK227
     clear BK228
     clear HB
     have HO233:=n0_
     have BK227:=n1_
     have BK228:=n2_
     have HB:=n3_
     clear n0_ n1_ n2_ n3_
     (try clear hb)
     (try clear hb2)
     (try clear hk)
     (try clear hi)
     (try clear ho0)
     refine hK.out _ _ ⟨(blk_cell BK227.out 0).trans rfl,(blk_cell BK228.out 0).trans rfl,(blk_cell BK228.out 1).trans rfl,(blk_cell BK228.out 2).trans rfl,(blk_cell BK228.out 3).trans rfl⟩ (fun hHeld => ?_)
     clear hK K
     refine norm_ (a':=?_) ?_ ?_;rotate_left
     ·show Act.put _ (some 28) _ = _;simp only [Act.put,qA0,qB0,qC0,i64_w,i32_w];rfl
     refine two_ (i:=3) (j:=8) (Ni:=some 30) (Nj:=some 6) (zF0 11 15) (zF0 11 263) rfl rfl rfl rfl (two_of HT_.out (by kernel_rfl)) (by decide) (by decide) (fun K hK => ?_) (fun K hK => ?_)
     ·skip
      refine goes_ Try.func37 (by kernel_rfl) rfl #[.agg #[.int .i64 a1_0,.string a1_1,.string a1_2,.string a1_3]] (by rfl) rfl rfl zM0 ?_
      with_reducible refine (laws_toAct.calls a1_0 a1_1 a1_2 a1_3 t234 t235 t236 t237 _ A20.out).mono ?_
      rintro e w35 ⟨rfl,hb⟩
      refine ⟨_,rfl,?_⟩
      have n0_:=Aside0.mk (Kd.R_below (zR0 HO233.out) hb)
      have n1_:=Aside0.mk (zB0 BK227.out hb)
      have n2_:=Aside0.mk (zB0 BK228.out hb)
      have n3_:=Aside0.mk (zS0 HB.out hb)
      clear HO233
      clear BK227
      clear BK228
      clear HB
      have HO233:=n0_
      have BK227:=n1_
      have BK228:=n2_
      have HB:=n3_
      clear n0_ n1_ n2_ n3_
      (try clear hb)
      (try clear hb2)
      (try clear hk)
      (try clear hi)
      obtain ⟨Ao36,co36,eo36⟩:=Kd.R_slice HO233.out
      (first | subst eo36 | (injection eo36 with f1_ f2_ f3_;have f4_:=f1_.symm;have f5_:=f3_.symm;clear f1_ f2_ f3_;subst f4_;subst f5_))
      refine hK.out _ _ ⟨(blk_cell BK227.out 0).trans rfl,(blk_cell BK228.out 0).trans rfl,(blk_cell BK228.out 1).trans rfl,(blk_cell BK228.out 2).trans rfl,(blk_cell BK228.out 3).trans rfl⟩ (fun hHeld => ?_)
      clear hK K
      refine norm_ (a':=?_) ?_ ?_;rotate_left
      ·show Act.put _ (some 30) _ = _;simp only [Act.put,qA0,qB0,qC0,i64_w,i32_w];rfl
      refine two_ (i:=4) (j:=8) (Ni:=some 31) (Nj:=some 6) (zF0 11 31) (zF0 11 271) rfl rfl rfl rfl (two_of HT_.out (by kernel_rfl)) (by decide) (by decide) (fun K hK => ?_) (fun K hK => ?_)
      ·skip
       refine goes_ Try.func36 (by kernel_rfl) rfl #[.agg #[.slice Ao36 t231.length co36],.agg #[.int .i64 t234,.string t235,.string t236,.string t237]] (by rfl) rfl rfl zM0 ?_
       with_reducible refine (spec_DoAct.calls k _ _ t231 t234 t235 t236 t237 t238 t241 _ ?side1 ?side2 A21.out).mono ?_
       (case side1 => repeat (first | exact (Kd.R_reads' HO233.out).2.2 | (with_reducible refine Kd.C_alloc ?_ _) | (with_reducible refine Kd.C_drewN ?_ _) | (with_reducible refine Kd.C_drew ?_)))
       (case side2 => exact (Kd.R_reads' HO233.out).2.1)
       rintro e w37 ⟨v239,rfl,ho0,hb⟩
       refine ⟨_,rfl,?_⟩
       have n0_:=Aside0.mk (Kd.R_elder' (zR0 HO233.out) (Kd.R_base ho0) hb)
       have n1_:=Aside0.mk (Kd.R_lower (Kd.R_new' ho0 (Kd.R_lt (zR0 HO233.out))) (zZ0 HB.out))
       have n2_:=Aside0.mk (zB0 BK227.out hb)
       have n3_:=Aside0.mk (zB0 BK228.out hb)
       have n4_:=Aside0.mk (zS0 HB.out hb)
       clear HO233
       clear BK227
       clear BK228
       clear HB
       have HO233:=n0_
       have HO240:=n1_
       have BK227:=n2_
       have BK228:=n3_
       have HB:=n4_
       clear n0_ n1_ n2_ n3_ n4_
       (try clear hb)
       (try clear hb2)
       (try clear hk)
       (try clear hi)
       (try clear ho0)
       refine hK.out _ _ ⟨(blk_cell BK227.out 0).trans rfl,(blk_cell BK228.out 0).trans rfl,(blk_cell BK228.out 1).trans rfl,(blk_cell BK228.out 2).trans rfl,(blk_cell BK228.out 3).trans rfl⟩ (fun hHeld => ?_)
       clear hK K
       refine norm_ (a':=?_) ?_ ?_;rotate_left
       ·show Act.put _ (some 31) _ = _;simp only [Act.put,qA0,qB0,qC0,i64_w,i32_w];rfl
       refine zP0 (i:=5) (N:=some 26) (zF0 11 63) rfl rfl HT_.out ?_
       refine zP0 (i:=6) (N:=some 32) (zF0 11 127) rfl rfl HT_.out ?_
       refine zP0 (i:=7) (N:=some 33) (zF0 11 255) rfl rfl HT_.out ?_
       refine one_ (i:=8) (N:=some 6) (zF0 11 511) rfl rfl (one_of HT_.out (by kernel_rfl)) (by decide) (fun K hK => ?_)
       refine box_step ?hg (N:=6) ?hd (cs:=#[.slice none 0 0]) (t:=30) ?hr ?_;(case hd => rfl);(case hg => rfl);(case hr => first | (go_simp;done) | (go_simp;rfl))
       intro gb242 hg w38 hbox hb
       have n0_:=Aside0.mk (Kd.R_below (zR0 HO233.out) hb)
       have n1_:=Aside0.mk (Kd.R_below (zR0 HO240.out) hb)
       have n2_:=Aside0.mk (zB0 BK227.out hb)
       have n3_:=Aside0.mk (zB0 BK228.out hb)
       have n4_:=Aside0.mk (zS0 HB.out hb)
       have n5_:=Aside0.mk (hbox)
       have n6_:=Aside0.mk ((by rw [hg];exact (zZ0 HB.out) : w.heap.size ≤ gb242))
       have n7_:=Aside0.mk ((by rw [hg];exact (zZ0 HB.out) : w.heap.size ≤ gb242))
       have n8_:=Aside0.mk ((zL0 hg BK227.out : gb227 ≠ gb242))
       have n9_:=Aside0.mk ((zG0 hg BK227.out : gb242 ≠ gb227))
       have n10_:=Aside0.mk ((zL0 hg BK228.out : gb228 ≠ gb242))
       have n11_:=Aside0.mk ((zG0 hg BK228.out : gb242 ≠ gb228))
       clear HO233
       clear HO240
       clear BK227
       clear BK228
       clear HB
       have HO233:=n0_
       have HO240:=n1_
       have BK227:=n2_
       have BK228:=n3_
       have HB:=n4_
       have BK242:=n5_
       have GW242:=n6_
       have GE242:=n7_
       have NB227_242:=n8_
       have NB242_227:=n9_
       have NB228_242:=n10_
       have NB242_228:=n11_
       clear n0_ n1_ n2_ n3_ n4_ n5_ n6_ n7_ n8_ n9_ n10_ n11_
       clear hb hbox hg
       refine hK.out _ _ ⟨(blk_cell BK227.out 0).trans rfl,(blk_cell BK228.out 0).trans rfl,(blk_cell BK228.out 1).trans rfl,(blk_cell BK228.out 2).trans rfl,(blk_cell BK228.out 3).trans rfl⟩ (fun hHeld => ?_)
       clear hK K
       refine norm_ (a':=?_) ?_ ?_;rotate_left
       ·show Act.put _ (some 6) _ = _;simp only [Act.put,qA0,qB0,qC0,i64_w,i32_w];rfl
       exact norm_ (by simp only [putAll,Act.put,qA0,qB0,qC0]) (hCont (.slice Ao36 t231.length co36,v239,gb242) _ ⟨hHeld,(by (with_reducible repeat (first | apply Kd.R_alloc | apply Kd.R_drewN | apply Kd.R_drew));exact Kd.R_mono HO233.out (fun _ hk => hk.2)),(by (with_reducible repeat (first | apply Kd.R_alloc | apply Kd.R_drewN | apply Kd.R_drew));exact Kd.R_mono HO240.out (fun _ hk => hk.2)),(zK0 BK227.out),(zK0 BK228.out),(zK0 BK242.out),GW242.out,GE242.out,NB227_242.out,NB242_227.out,NB228_242.out,NB242_228.out,(by repeat (first | (with_reducible first | exact HB.out | apply below_alloc | apply pw_below_drewN | apply below_drew1 | refine below_set ?_ GE227.out | refine below_set ?_ GE228.out | refine below_set ?_ GE242.out) | exact HB.out))⟩)
      ·skip
       refine box_step ?hg (N:=6) ?hd (cs:=#[.slice none 0 0]) (t:=30) ?hr ?_;(case hd => rfl);(case hg => rfl);(case hr => first | (go_simp;done) | (go_simp;rfl))
       intro gb242 hg w36 hbox hb
       have n0_:=Aside0.mk (Kd.R_below (zR0 HO233.out) hb)
       have n1_:=Aside0.mk (zB0 BK227.out hb)
       have n2_:=Aside0.mk (zB0 BK228.out hb)
       have n3_:=Aside0.mk (zS0 HB.out hb)
       have n4_:=Aside0.mk (hbox)
       have n5_:=Aside0.mk ((by rw [hg];exact (zZ0 HB.out) : w.heap.size ≤ gb242))
       have n6_:=Aside0.mk ((by rw [hg];exact (zZ0 HB.out) : w.heap.size ≤ gb242))
       have n7_:=Aside0.mk ((zL0 hg BK227.out : gb227 ≠ gb242))
       have n8_:=Aside0.mk ((zG0 hg BK227.out : gb242 ≠ gb227))
       have n9_:=Aside0.mk ((zL0 hg BK228.out : gb228 ≠ gb242))
       have n10_:=Aside0.mk ((zG0 hg BK228.out : gb242 ≠ gb228))
       clear HO233
       clear BK227
       clear BK228
       clear HB
       have HO233:=n0_
       have BK227:=n1_
       have BK228:=n2_
       have HB:=n3_
       have BK242:=n4_
       have GW242:=n5_
       have GE242:=n6_
       have NB227_242:=n7_
       have NB242_227:=n8_
       have NB228_242:=n9_
       have NB242_228:=n10_
       clear n0_ n1_ n2_ n3_ n4_ n5_ n6_ n7_ n8_ n9_ n10_
       clear hb hbox hg
       obtain ⟨Ao37,co37,eo37⟩:=Kd.R_slice HO233.out
       (first | subst eo37 | (injection eo37 with f1_ f2_ f3_;have f4_:=f1_.symm;have f5_:=f3_.symm;clear f1_ f2_ f3_;subst f4_;subst f5_))
       refine hK.out _ _ ⟨(blk_cell BK227.out 0).trans rfl,(blk_cell BK228.out 0).trans rfl,(blk_cell BK228.out 1).trans rfl,(blk_cell BK228.out 2).trans rfl,(blk_cell BK228.out 3).trans rfl⟩ (fun hHeld => ?_)
       clear hK K
       refine norm_ (a':=?_) ?_ ?_;rotate_left
       ·show Act.put _ (some 6) _ = _;simp only [Act.put,qA0,qB0,qC0,i64_w,i32_w];rfl
       refine one_ (i:=4) (N:=some 31) (zF0 11 287) rfl rfl (one_of HT_.out (by kernel_rfl)) (by decide) (fun K hK => ?_)
       refine goes_ Try.func36 (by kernel_rfl) rfl #[.agg #[.slice Ao37 t231.length co37],.agg #[.int .i64 t234,.string t235,.string t236,.string t237]] (by rfl) rfl rfl zM0 ?_
       with_reducible refine (spec_DoAct.calls k _ _ t231 t234 t235 t236 t237 t238 t241 _ ?side1 ?side2 A21.out).mono ?_
       (case side1 => repeat (first | exact (Kd.R_reads' HO233.out).2.2 | (with_reducible refine Kd.C_alloc ?_ _) | (with_reducible refine Kd.C_drewN ?_ _) | (with_reducible refine Kd.C_drew ?_)))
       (case side2 => exact (Kd.R_reads' HO233.out).2.1)
       rintro e w38 ⟨v239,rfl,ho0,hb⟩
       refine ⟨_,rfl,?_⟩
       have n0_:=Aside0.mk (Kd.R_elder' (zR0 HO233.out) (Kd.R_base ho0) hb)
       have n1_:=Aside0.mk (Kd.R_lower (Kd.R_new' ho0 (Kd.R_lt (zR0 HO233.out))) (zZ0 HB.out))
       have n2_:=Aside0.mk (zB0 BK227.out hb)
       have n3_:=Aside0.mk (zB0 BK228.out hb)
       have n4_:=Aside0.mk (zB0 BK242.out hb)
       have n5_:=Aside0.mk (zS0 HB.out hb)
       clear HO233
       clear BK227
       clear BK228
       clear BK242
       clear HB
       have HO233:=n0_
       have HO240:=n1_
       have BK227:=n2_
       have BK228:=n3_
       have BK242:=n4_
       have HB:=n5_
       clear n0_ n1_ n2_ n3_ n4_ n5_
       (try clear hb)
       (try clear hb2)
       (try clear hk)
       (try clear hi)
       (try clear ho0)
       refine hK.out _ _ ⟨(blk_cell BK227.out 0).trans rfl,(blk_cell BK228.out 0).trans rfl,(blk_cell BK228.out 1).trans rfl,(blk_cell BK228.out 2).trans rfl,(blk_cell BK228.out 3).trans rfl⟩ (fun hHeld => ?_)
       clear hK K
       refine norm_ (a':=?_) ?_ ?_;rotate_left
       ·show Act.put _ (some 31) _ = _;simp only [Act.put,qA0,qB0,qC0,i64_w,i32_w];rfl
       refine zP0 (i:=5) (N:=some 26) (zF0 11 319) rfl rfl HT_.out ?_
       refine zP0 (i:=6) (N:=some 32) (zF0 11 383) rfl rfl HT_.out ?_
       refine zP0 (i:=7) (N:=some 33) (zF0 11 511) rfl rfl HT_.out ?_
       exact norm_ (by simp only [putAll,Act.put,qA0,qB0,qC0]) (hCont (.slice Ao37 t231.length co37,v239,gb242) _ ⟨hHeld,(by (with_reducible repeat (first | apply Kd.R_alloc | apply Kd.R_drewN | apply Kd.R_drew));exact Kd.R_mono HO233.out (fun _ hk => hk.2)),(by (with_reducible repeat (first | apply Kd.R_alloc | apply Kd.R_drewN | apply Kd.R_drew));exact Kd.R_mono HO240.out (fun _ hk => hk.2)),(zK0 BK227.out),(zK0 BK228.out),(zK0 BK242.out),GW242.out,GE242.out,NB227_242.out,NB242_227.out,NB228_242.out,NB242_228.out,(by repeat (first | (with_reducible first | exact HB.out | apply below_alloc | apply pw_below_drewN | apply below_drew1 | refine below_set ?_ GE227.out | refine below_set ?_ GE228.out | refine below_set ?_ GE242.out) | exact HB.out))⟩)
     ·skip
      refine box_step ?hg (N:=6) ?hd (cs:=#[.slice none 0 0]) (t:=30) ?hr ?_;(case hd => rfl);(case hg => rfl);(case hr => first | (go_simp;done) | (go_simp;rfl))
      intro gb242 hg w35 hbox hb
      have n0_:=Aside0.mk (Kd.R_below (zR0 HO233.out) hb)
      have n1_:=Aside0.mk (zB0 BK227.out hb)
      have n2_:=Aside0.mk (zB0 BK228.out hb)
      have n3_:=Aside0.mk (zS0 HB.out hb)
      have n4_:=Aside0.mk (hbox)
      have n5_:=Aside0.mk ((by rw [hg];exact (zZ0 HB.out) : w.heap.size ≤ gb242))
      have n6_:=Aside0.mk ((by rw [hg];exact (zZ0 HB.out) : w.heap.size ≤ gb242))
      have n7_:=Aside0.mk ((zL0 hg BK227.out : gb227 ≠ gb242))
      have n8_:=Aside0.mk ((zG0 hg BK227.out : gb242 ≠ gb227))
      have n9_:=Aside0.mk ((zL0 hg BK228.out : gb228 ≠ gb242))
      have n10_:=Aside0.mk ((zG0 hg BK228.out : gb242 ≠ gb228))
      clear HO233
      clear BK227
      clear BK228
      clear HB
      have HO233:=n0_
      have BK227:=n1_
      have BK228:=n2_
      have HB:=n3_
      have BK242:=n4_
      have GW242:=n5_
      have GE242:=n6_
      have NB227_242:=n7_
      have NB242_227:=n8_
      have NB228_242:=n9_
      have NB242_228:=n10_
      clear n0_ n1_ n2_ n3_ n4_ n5_ n6_ n7_ n8_ n9_ n10_
      clear hb hbox hg
      refine hK.out _ _ ⟨(blk_cell BK227.out 0).trans rfl,(blk_cell BK228.out 0).trans rfl,(blk_cell BK228.out 1).trans rfl,(blk_cell BK228.out 2).trans rfl,(blk_cell BK228.out 3).trans rfl⟩ (fun hHeld => ?_)
      clear hK K
      refine norm_ (a':=?_) ?_ ?_;rotate_left
      ·show Act.put _ (some 6) _ = _;simp only [Act.put,qA0,qB0,qC0,i64_w,i32_w];rfl
      refine one_ (i:=3) (N:=some 30) (zF0 11 271) rfl rfl (one_of HT_.out (by kernel_rfl)) (by decide) (fun K hK => ?_)
      refine goes_ Try.func37 (by kernel_rfl) rfl #[.agg #[.int .i64 a1_0,.string a1_1,.string a1_2,.string a1_3]] (by rfl) rfl rfl zM0 ?_
      with_reducible refine (laws_toAct.calls a1_0 a1_1 a1_2 a1_3 t234 t235 t236 t237 _ A20.out).mono ?_
      rintro e w36 ⟨rfl,hb⟩
      refine ⟨_,rfl,?_⟩
      have n0_:=Aside0.mk (Kd.R_below (zR0 HO233.out) hb)
      have n1_:=Aside0.mk (zB0 BK227.out hb)
      have n2_:=Aside0.mk (zB0 BK228.out hb)
      have n3_:=Aside0.mk (zB0 BK242.out hb)
      have n4_:=Aside0.mk (zS0 HB.out hb)
      clear HO233
      clear BK227
      clear BK228
      clear BK242
      clear HB
      have HO233:=n0_
      have BK227:=n1_
      have BK228:=n2_
      have BK242:=n3_
      have HB:=n4_
      clear n0_ n1_ n2_ n3_ n4_
      (try clear hb)
      (try clear hb2)
      (try clear hk)
      (try clear hi)
      obtain ⟨Ao37,co37,eo37⟩:=Kd.R_slice HO233.out
      (first | subst eo37 | (injection eo37 with f1_ f2_ f3_;have f4_:=f1_.symm;have f5_:=f3_.symm;clear f1_ f2_ f3_;subst f4_;subst f5_))
      refine hK.out _ _ ⟨(blk_cell BK227.out 0).trans rfl,(blk_cell BK228.out 0).trans rfl,(blk_cell BK228.out 1).trans rfl,(blk_cell BK228.out 2).trans rfl,(blk_cell BK228.out 3).trans rfl⟩ (fun hHeld => ?_)
      clear hK K
      refine norm_ (a':=?_) ?_ ?_;rotate_left
      ·show Act.put _ (some 30) _ = _;simp only [Act.put,qA0,qB0,qC0,i64_w,i32_w];rfl
      refine one_ (i:=4) (N:=some 31) (zF0 11 287) rfl rfl (one_of HT_.out (by kernel_rfl)) (by decide) (fun K hK => ?_)
      refine goes_ Try.func36 (by kernel_rfl) rfl #[.agg #[.slice Ao37 t231.length co37],.agg #[.int .i64 t234,.string t235,.string t236,.string t237]] (by rfl) rfl rfl zM0 ?_
      with_reducible refine (spec_DoAct.calls k _ _ t231 t234 t235 t236 t237 t238 t241 _ ?side1 ?side2 A21.out).mono ?_
      (case side1 => repeat (first | exact (Kd.R_reads' HO233.out).2.2 | (with_reducible refine Kd.C_alloc ?_ _) | (with_reducible refine Kd.C_drewN ?_ _) | (with_reducible refine Kd.C_drew ?_)))
      (case side2 => exact (Kd.R_reads' HO233.out).2.1)
      rintro e w38 ⟨v239,rfl,ho0,hb⟩
      refine ⟨_,rfl,?_⟩
      have n0_:=Aside0.mk (Kd.R_elder' (zR0 HO233.out) (Kd.R_base ho0) hb)
      have n1_:=Aside0.mk (Kd.R_lower (Kd.R_new' ho0 (Kd.R_lt (zR0 HO233.out))) (zZ0 HB.out))
      have n2_:=Aside0.mk (zB0 BK227.out hb)
      have n3_:=Aside0.mk (zB0 BK228.out hb)
      have n4_:=Aside0.mk (zB0 BK242.out hb)
      have n5_:=Aside0.mk (zS0 HB.out hb)
      clear HO233
      clear BK227
      clear BK228
      clear BK242
      clear HB
      have HO233:=n0_
      have HO240:=n1_
      have BK227:=n2_
      have BK228:=n3_
      have BK242:=n4_
      have HB:=n5_
      clear n0_ n1_ n2_ n3_ n4_ n5_
      (try clear hb)
      (try clear hb2)
      (try clear hk)
      (try clear hi)
      (try clear ho0)
      refine hK.out _ _ ⟨(blk_cell BK227.out 0).trans rfl,(blk_cell BK228.out 0).trans rfl,(blk_cell BK228.out 1).trans rfl,(blk_cell BK228.out 2).trans rfl,(blk_cell BK228.out 3).trans rfl⟩ (fun hHeld => ?_)
      clear hK K
      refine norm_ (a':=?_) ?_ ?_;rotate_left
      ·show Act.put _ (some 31) _ = _;simp only [Act.put,qA0,qB0,qC0,i64_w,i32_w];rfl
      refine zP0 (i:=5) (N:=some 26) (zF0 11 319) rfl rfl HT_.out ?_
      refine zP0 (i:=6) (N:=some 32) (zF0 11 383) rfl rfl HT_.out ?_
      refine zP0 (i:=7) (N:=some 33) (zF0 11 511) rfl rfl HT_.out ?_
      exact norm_ (by simp only [putAll,Act.put,qA0,qB0,qC0]) (hCont (.slice Ao37 t231.length co37,v239,gb242) _ ⟨hHeld,(by (with_reducible repeat (first | apply Kd.R_alloc | apply Kd.R_drewN | apply Kd.R_drew));exact Kd.R_mono HO233.out (fun _ hk => hk.2)),(by (with_reducible repeat (first | apply Kd.R_alloc | apply Kd.R_drewN | apply Kd.R_drew));exact Kd.R_mono HO240.out (fun _ hk => hk.2)),(zK0 BK227.out),(zK0 BK228.out),(zK0 BK242.out),GW242.out,GE242.out,NB227_242.out,NB242_227.out,NB228_242.out,NB242_228.out,(by repeat (first | (with_reducible first | exact HB.out | apply below_alloc | apply pw_below_drewN | apply below_drew1 | refine below_set ?_ GE227.out | refine below_set ?_ GE228.out | refine below_set ?_ GE242.out) | exact HB.out))⟩)
    ·skip
     refine box_step ?hg (N:=6) ?hd (cs:=#[.slice none 0 0]) (t:=30) ?hr ?_;(case hd => rfl);(case hg => rfl);(case hr => first | (go_simp;done) | (go_simp;rfl))
     intro gb242 hg w34 hbox hb
     have n0_:=Aside0.mk (zB0 BK227.out hb)
     have n1_:=Aside0.mk (zB0 BK228.out hb)
     have n2_:=Aside0.mk (zS0 HB.out hb)
     have n3_:=Aside0.mk (hbox)
     have n4_:=Aside0.mk ((by rw [hg];exact (zZ0 HB.out) : w.heap.size ≤ gb242))
     have n5_:=Aside0.mk ((by rw [hg];exact (zZ0 HB.out) : w.heap.size ≤ gb242))
     have n6_:=Aside0.mk ((zL0 hg BK227.out : gb227 ≠ gb242))
     have n7_:=Aside0.mk ((zG0 hg BK227.out : gb242 ≠ gb227))
     have n8_:=Aside0.mk ((zL0 hg BK228.out : gb228 ≠ gb242))
     have n9_:=Aside0.mk ((zG0 hg BK228.out : gb242 ≠ gb228))
     clear BK227
     clear BK228
     clear HB
     have BK227:=n0_
     have BK228:=n1_
     have HB:=n2_
     have BK242:=n3_
     have GW242:=n4_
     have GE242:=n5_
     have NB227_242:=n6_
     have NB242_227:=n7_
     have NB228_242:=n8_
     have NB242_228:=n9_
     clear n0_ n1_ n2_ n3_ n4_ n5_ n6_ n7_ n8_ n9_
     clear hb hbox hg
     refine hK.out _ _ ⟨(blk_cell BK227.out 0).trans rfl,(blk_cell BK228.out 0).trans rfl,(blk_cell BK228.out 1).trans rfl,(blk_cell BK228.out 2).trans rfl,(blk_cell BK228.out 3).trans rfl⟩ (fun hHeld => ?_)
     clear hK K
     refine norm_ (a':=?_) ?_ ?_;rotate_left
     ·show Act.put _ (some 6) _ = _;simp only [Act.put,qA0,qB0,qC0,i64_w,i32_w];rfl
     refine one_ (i:=1) (N:=some 28) (zF0 11 263) rfl rfl (one_of HT_.out (by kernel_rfl)) (by decide) (fun K hK => ?_)
     refine goes_ Try.func16 (by kernel_rfl) rfl #[.agg #[.slice A0_0 l0_0.length c0_0]] (by rfl) rfl rfl zM0 ?_
     with_reducible refine (laws_toDisk.calls k _ _ l0_0 t231 _ ?side1 ?side2 A19.out).mono ?_
     (case side1 => repeat (first | exact (Kd.C_below HR0_0.out HB.out) | (with_reducible refine Kd.C_alloc ?_ _) | (with_reducible refine Kd.C_drewN ?_ _) | (with_reducible refine Kd.C_drew ?_)))
     (case side2 => exact HC0_0.out)
     rintro e w35 ⟨v232,rfl,ho0,hb⟩
     refine ⟨_,rfl,?_⟩
     have n0_:=Aside0.mk (Kd.R_lower ho0 (zZ0 HB.out))
     have n1_:=Aside0.mk (zB0 BK227.out hb)
     have n2_:=Aside0.mk (zB0 BK228.out hb)
     have n3_:=Aside0.mk (zB0 BK242.out hb)
     have n4_:=Aside0.mk (zS0 HB.out hb)
     clear BK227
     clear BK228
     clear BK242
     clear HB
     have HO233:=n0_
     have BK227:=n1_
     have BK228:=n2_
     have BK242:=n3_
     have HB:=n4_
     clear n0_ n1_ n2_ n3_ n4_
     (try clear hb)
     (try clear hb2)
     (try clear hk)
     (try clear hi)
     (try clear ho0)
     refine hK.out _ _ ⟨(blk_cell BK227.out 0).trans rfl,(blk_cell BK228.out 0).trans rfl,(blk_cell BK228.out 1).trans rfl,(blk_cell BK228.out 2).trans rfl,(blk_cell BK228.out 3).trans rfl⟩ (fun hHeld => ?_)
     clear hK K
     refine norm_ (a':=?_) ?_ ?_;rotate_left
     ·show Act.put _ (some 28) _ = _;simp only [Act.put,qA0,qB0,qC0,i64_w,i32_w];rfl
     refine one_ (i:=3) (N:=some 30) (zF0 11 271) rfl rfl (one_of HT_.out (by kernel_rfl)) (by decide) (fun K hK => ?_)
     refine goes_ Try.func37 (by kernel_rfl) rfl #[.agg #[.int .i64 a1_0,.string a1_1,.string a1_2,.string a1_3]] (by rfl) rfl rfl zM0 ?_
     with_reducible refine (laws_toAct.calls a1_0 a1_1 a1_2 a1_3 t234 t235 t236 t237 _ A20.out).mono ?_
     rintro e w36 ⟨rfl,hb⟩
     refine ⟨_,rfl,?_⟩
     have n0_:=Aside0.mk (Kd.R_below (zR0 HO233.out) hb)
     have n1_:=Aside0.mk (zB0 BK227.out hb)
     have n2_:=Aside0.mk (zB0 BK228.out hb)
     have n3_:=Aside0.mk (zB0 BK242.out hb)
     have n4_:=Aside0.mk (zS0 HB.out hb)
     clear HO233
     clear BK227
     clear BK228
     clear BK242
     clear HB
     have HO233:=n0_
     have BK227:=n1_
     have BK228:=n2_
     have BK242:=n3_
     have HB:=n4_
     clear n0_ n1_ n2_ n3_ n4_
     (try clear hb)
     (try clear hb2)
     (try clear hk)
     (try clear hi)
     obtain ⟨Ao37,co37,eo37⟩:=Kd.R_slice HO233.out
     (first | subst eo37 | (injection eo37 with f1_ f2_ f3_;have f4_:=f1_.symm;have f5_:=f3_.symm;clear f1_ f2_ f3_;subst f4_;subst f5_))
     refine hK.out _ _ ⟨(blk_cell BK227.out 0).trans rfl,(blk_cell BK228.out 0).trans rfl,(blk_cell BK228.out 1).trans rfl,(blk_cell BK228.out 2).trans rfl,(blk_cell BK228.out 3).trans rfl⟩ (fun hHeld => ?_)
     clear hK K
     refine norm_ (a':=?_) ?_ ?_;rotate_left
     ·show Act.put _ (some 30) _ = _;simp only [Act.put,qA0,qB0,qC0,i64_w,i32_w];rfl
     refine one_ (i:=4) (N:=some 31) (zF0 11 287) rfl rfl (one_of HT_.out (by kernel_rfl)) (by decide) (fun K hK => ?_)
     refine goes_ Try.func36 (by kernel_rfl) rfl #[.agg #[.slice Ao37 t231.length co37],.agg #[.int .i64 t234,.string t235,.string t236,.string t237]] (by rfl) rfl rfl zM0 ?_
     with_reducible refine (spec_DoAct.calls k _ _ t231 t234 t235 t236 t237 t238 t241 _ ?side1 ?side2 A21.out).mono ?_
     (case side1 => repeat (first | exact (Kd.R_reads' HO233.out).2.2 | (with_reducible refine Kd.C_alloc ?_ _) | (with_reducible refine Kd.C_drewN ?_ _) | (with_reducible refine Kd.C_drew ?_)))
     (case side2 => exact (Kd.R_reads' HO233.out).2.1)
     rintro e w38 ⟨v239,rfl,ho0,hb⟩
     refine ⟨_,rfl,?_⟩
     have n0_:=Aside0.mk (Kd.R_elder' (zR0 HO233.out) (Kd.R_base ho0) hb)
     have n1_:=Aside0.mk (Kd.R_lower (Kd.R_new' ho0 (Kd.R_lt (zR0 HO233.out))) (zZ0 HB.out))
     have n2_:=Aside0.mk (zB0 BK227.out hb)
     have n3_:=Aside0.mk (zB0 BK228.out hb)
     have n4_:=Aside0.mk (zB0 BK242.out hb)
     have n5_:=Aside0.mk (zS0 HB.out hb)
     clear HO233
     clear BK227
     clear BK228
     clear BK242
     clear HB
     have HO233:=n0_
     have HO240:=n1_
     have BK227:=n2_
     have BK228:=n3_
     have BK242:=n4_
     have HB:=n5_
     clear n0_ n1_ n2_ n3_ n4_ n5_
     (try clear hb)
     (try clear hb2)
     (try clear hk)
     (try clear hi)
     (try clear ho0)
     refine hK.out _ _ ⟨(blk_cell BK227.out 0).trans rfl,(blk_cell BK228.out 0).trans rfl,(blk_cell BK228.out 1).trans rfl,(blk_cell BK228.out 2).trans rfl,(blk_cell BK228.out 3).trans rfl⟩ (fun hHeld => ?_)
     clear hK K
     refine norm_ (a':=?_) ?_ ?_;rotate_left
     ·show Act.put _ (some 31) _ = _;simp only [Act.put,qA0,qB0,qC0,i64_w,i32_w];rfl
     refine zP0 (i:=5) (N:=some 26) (zF0 11 319) rfl rfl HT_.out ?_
     refine zP0 (i:=6) (N:=some 32) (zF0 11 383) rfl rfl HT_.out ?_
     refine zP0 (i:=7) (N:=some 33) (zF0 11 511) rfl rfl HT_.out ?_
     exact norm_ (by simp only [putAll,Act.put,qA0,qB0,qC0]) (hCont (.slice Ao37 t231.length co37,v239,gb242) _ ⟨hHeld,(by (with_reducible repeat (first | apply Kd.R_alloc | apply Kd.R_drewN | apply Kd.R_drew));exact Kd.R_mono HO233.out (fun _ hk => hk.2)),(by (with_reducible repeat (first | apply Kd.R_alloc | apply Kd.R_drewN | apply Kd.R_drew));exact Kd.R_mono HO240.out (fun _ hk => hk.2)),(zK0 BK227.out),(zK0 BK228.out),(zK0 BK242.out),GW242.out,GE242.out,NB227_242.out,NB242_227.out,NB228_242.out,NB242_228.out,(by repeat (first | (with_reducible first | exact HB.out | apply below_alloc | apply pw_below_drewN | apply below_drew1 | refine below_set ?_ GE227.out | refine below_set ?_ GE228.out | refine below_set ?_ GE242.out) | exact HB.out))⟩)
   rintro ⟨v232,v239,gb242⟩ w39 ⟨hS_,h0_,h1_,h2_,h3_,h4_,h5_,h6_,h7_,h8_,h9_,h10_,h11_⟩
   have n0_ : Aside0 (Kd.R k45 45 w39 w.heap.size (fun k_ => some k_ ≠ (v239 : Value).ownBlock) v232 t231):=⟨h0_⟩
   have n1_ : Aside0 (Kd.R k45 45 w39 w.heap.size (fun k_ => some k_ ≠ (v232 : Value).ownBlock) v239 t238):=⟨h1_⟩
   have n2_ : Aside0 (w39.heap[gb227]? = some (.cells #[.slice A0_0 l0_0.length c0_0] 24 (0,0))):=⟨h2_⟩
   have n3_ : Aside0 (w39.heap[gb228]? = some (.cells #[.int .i64 a1_0,.string a1_1,.string a1_2,.string a1_3] 52 (0,0))):=⟨h3_⟩
   have n4_ : Aside0 (w39.heap[gb242]? = some (.cells #[.slice none 0 0] 30 (0,0))):=⟨h4_⟩
   have n5_ : Aside0 (w.heap.size ≤ gb242):=⟨h5_⟩
   have n6_ : Aside0 (w.heap.size ≤ gb242):=⟨h6_⟩
   have n7_ : Aside0 (gb227 ≠ gb242):=⟨h7_⟩
   have n8_ : Aside0 (gb242 ≠ gb227):=⟨h8_⟩
   have n9_ : Aside0 (gb228 ≠ gb242):=⟨h9_⟩
   have n10_ : Aside0 (gb242 ≠ gb228):=⟨h10_⟩
   have n11_ : Aside0 (Below w.heap.size w w39):=⟨h11_⟩
   clear BK227
   clear BK228
   clear HB
   clear h0_ h1_ h2_ h3_ h4_ h5_ h6_ h7_ h8_ h9_ h10_ h11_
   have HO233:=n0_
   have HO240:=n1_
   have BK227:=n2_
   have BK228:=n3_
   have BK242:=n4_
   have GW242:=n5_
   have GE242:=n6_
   have NB227_242:=n7_
   have NB242_227:=n8_
   have NB228_242:=n9_
   have NB242_228:=n10_
   have HB:=n11_
   clear n0_ n1_ n2_ n3_ n4_ n5_ n6_ n7_ n8_ n9_ n10_ n11_
   have hHeld : w39.cell? ⟨gb227,0,none⟩ = some (.slice A0_0 l0_0.length c0_0) ∧ w39.cell? ⟨gb228,0,none⟩ = some (.int .i64 a1_0) ∧ w39.cell? ⟨gb228,1,none⟩ = some (.string a1_1) ∧ w39.cell? ⟨gb228,2,none⟩ = some (.string a1_2) ∧ w39.cell? ⟨gb228,3,none⟩ = some (.string a1_3):=hS_
   obtain ⟨Ao40,co40,eo40⟩:=Kd.R_slice HO240.out
   (first | subst eo40 | (injection eo40 with f1_ f2_ f3_;have f4_:=f1_.symm;have f5_:=f3_.symm;clear f1_ f2_ f3_;subst f4_;subst f5_))
   refine norm_ (a':=?_) ?_ ?_;rotate_left
   ·simp only [putAll,Act.put,qA0,qB0,qC0]
    rfl
   refine one_ (i:=9) (N:=none) (zF0 11 1023) rfl rfl (one_of HT_.out (by kernel_rfl)) (by decide) (fun K hK => ?_)
   have hs41 : w39.cell? ⟨gb242,0,none⟩ = some (.slice none 0 0):=(blk_cell BK242.out 0).trans rfl
   have hfs41:=blk_frozen BK242.out 0
   have hns41_0:=NB227_242.out
   have hns41_1:=NB228_242.out
   have hms41_0:=NB242_227.out
   have hms41_1:=NB242_228.out
   refine skip_ (w1:=?_) (by rfl) rfl ?_ ?_;rotate_left
   ·go_simp
    rfl
   refine hK.out _ _ ⟨((cell_far (p:=⟨gb242,_,none⟩) NB227_242.out _).trans (hHeld.1)),((cell_far (p:=⟨gb242,_,none⟩) NB228_242.out _).trans (hHeld.2.1)),((cell_far (p:=⟨gb242,_,none⟩) NB228_242.out _).trans (hHeld.2.2.1)),((cell_far (p:=⟨gb242,_,none⟩) NB228_242.out _).trans (hHeld.2.2.2.1)),((cell_far (p:=⟨gb242,_,none⟩) NB228_242.out _).trans (hHeld.2.2.2.2))⟩ (fun hHeld => ?_)
   clear hK K
   refine zP0 (i:=10) (N:=some 7) (zF0 11 2047) rfl rfl HT_.out ?_
   refine done_ (done_of HT_.out (by kernel_rfl)) ?_
   have hnb42:=NB227_242.out
   have hnc42:=NB242_227.out
   have hcz43_0 : w39.cell? ⟨gb227,0,none⟩ = some (.slice A0_0 l0_0.length c0_0):=(blk_cell BK227.out 0).trans rfl
   have hfz43_0:=blk_frozen BK227.out 0
   try go_wp2_with (first | ((with_reducible refine gate_callee (f:=16) rfl ?_);refine goesL_ (some 35) rfl rfl Try.func16 (by kernel_rfl) rfl #[.agg #[.slice A0_0 l0_0.length c0_0]] rfl zM0 ?_;(with_reducible refine (laws_toDisk.calls k _ _ l0_0 t243 _ ?side1 ?side2 A22.out).mono ?_);(case side1 => exact Kd.C_below HR0_0.out (by repeat (first | (with_reducible first | exact HB.out | apply below_alloc | apply pw_below_drewN | apply below_drew1 | refine below_set ?_ GE227.out | refine below_set ?_ GE228.out | refine below_set ?_ GE242.out) | exact HB.out)));(case side2 => exact HC0_0.out);rintro e w44 ⟨v244,rfl,ho0,hb⟩;refine ⟨_,rfl,?_⟩;have n0_:=Aside0.mk (Kd.R_elder' (by (with_reducible repeat (first | apply Kd.R_alloc | apply Kd.R_drewN | apply Kd.R_drew));exact (Kd.R_mono (Kd.R_far (p:=⟨gb242,0,none⟩) (Kd.R_types HO233.out BK242.out (by decide)) (fun _ hk => hk.2) (.slice Ao40 t238.length co40)) (fun _ h_ => h_.1))) (Kd.R_base ho0) hb);have n1_:=Aside0.mk (Kd.R_elder' (by (with_reducible repeat (first | apply Kd.R_alloc | apply Kd.R_drewN | apply Kd.R_drew));exact (Kd.R_mono (Kd.R_far (p:=⟨gb242,0,none⟩) (Kd.R_types HO240.out BK242.out (by decide)) (fun _ hk => hk.2) (.slice Ao40 t238.length co40)) (fun _ h_ => h_.1))) (Kd.R_base ho0) hb);have n2_:=Aside0.mk (Kd.R_lower (Kd.R_new' (Kd.R_new' ho0 (Kd.R_lt (by (with_reducible repeat (first | apply Kd.R_alloc | apply Kd.R_drewN | apply Kd.R_drew));exact (Kd.R_mono (Kd.R_far (p:=⟨gb242,0,none⟩) (Kd.R_types HO233.out BK242.out (by decide)) (fun _ hk => hk.2) (.slice Ao40 t238.length co40)) (fun _ h_ => h_.1))))) (Kd.R_lt (by (with_reducible repeat (first | apply Kd.R_alloc | apply Kd.R_drewN | apply Kd.R_drew));exact (Kd.R_mono (Kd.R_far (p:=⟨gb242,0,none⟩) (Kd.R_types HO240.out BK242.out (by decide)) (fun _ hk => hk.2) (.slice Ao40 t238.length co40)) (fun _ h_ => h_.1))))) (zZ0 HB.out));have n3_:=Aside0.mk (blk_below (g:=gb227) (o:=.cells #[.slice A0_0 l0_0.length c0_0] 24 (0,0)) (by (with_reducible repeat (first | refine blk_drewN ?_ _ | refine blk_drew ?_ | refine blk_alloc ?_ _));refine blk_far ?_ NB227_242.out _;(with_reducible repeat (first | refine blk_drewN ?_ _ | refine blk_drew ?_ | refine blk_alloc ?_ _));exact BK227.out) hb);have n4_:=Aside0.mk (blk_below (g:=gb228) (o:=.cells #[.int .i64 a1_0,.string a1_1,.string a1_2,.string a1_3] 52 (0,0)) (by (with_reducible repeat (first | refine blk_drewN ?_ _ | refine blk_drew ?_ | refine blk_alloc ?_ _));refine blk_far ?_ NB228_242.out _;(with_reducible repeat (first | refine blk_drewN ?_ _ | refine blk_drew ?_ | refine blk_alloc ?_ _));exact BK228.out) hb);have n5_:=Aside0.mk (blk_below (g:=gb242) (o:=.cells #[.slice Ao40 t238.length co40] 30 (0,0)) (by (with_reducible repeat (first | refine blk_drewN ?_ _ | refine blk_drew ?_ | refine blk_alloc ?_ _));refine blk_put (cs:=#[.slice none 0 0]) ?_ 0 _ rfl;(with_reducible repeat (first | refine blk_drewN ?_ _ | refine blk_drew ?_ | refine blk_alloc ?_ _));exact BK242.out) hb);have n6_:=Aside0.mk (zS0 HB.out hb);clear HO233;clear HO240;clear BK227;clear BK228;clear BK242;clear HB;have HO233:=n0_;have HO240:=n1_;have HO245:=n2_;have BK227:=n3_;have BK228:=n4_;have BK242:=n5_;have HB:=n6_;clear n0_ n1_ n2_ n3_ n4_ n5_ n6_;(try clear hb);(try clear hb2);(try clear hk);(try clear hi);(try clear ho0)) | ((with_reducible refine gate_dst (N:=8) rfl ?_);refine box_event ?hg (N:=8) ?hd (cs:=#[.slice none 0 0]) (t:=30) ?hr ?_;(case hd => rfl);(case hg => rfl);(case hr => first | (go_simp;done) | (go_simp;rfl));intro gb246 hg w45 hbox hb;have n0_:=Aside0.mk (Kd.R_below (zR0 HO233.out) hb);have n1_:=Aside0.mk (Kd.R_below (zR0 HO240.out) hb);have n2_:=Aside0.mk (Kd.R_below (zR0 HO245.out) hb);have n3_:=Aside0.mk (zB0 BK227.out hb);have n4_:=Aside0.mk (zB0 BK228.out hb);have n5_:=Aside0.mk (zB0 BK242.out hb);have n6_:=Aside0.mk (zS0 HB.out hb);have n7_:=Aside0.mk (hbox);have n8_:=Aside0.mk ((by rw [hg];exact (zZ0 HB.out) : w.heap.size ≤ gb246));have n9_:=Aside0.mk ((by rw [hg];exact (zZ0 HB.out) : w.heap.size ≤ gb246));have n10_:=Aside0.mk ((zL0 hg BK227.out : gb227 ≠ gb246));have n11_:=Aside0.mk ((zG0 hg BK227.out : gb246 ≠ gb227));have n12_:=Aside0.mk ((zL0 hg BK228.out : gb228 ≠ gb246));have n13_:=Aside0.mk ((zG0 hg BK228.out : gb246 ≠ gb228));have n14_:=Aside0.mk ((zL0 hg BK242.out : gb242 ≠ gb246));have n15_:=Aside0.mk ((zG0 hg BK242.out : gb246 ≠ gb242));clear HO233;clear HO240;clear HO245;clear BK227;clear BK228;clear BK242;clear HB;have HO233:=n0_;have HO240:=n1_;have HO245:=n2_;have BK227:=n3_;have BK228:=n4_;have BK242:=n5_;have HB:=n6_;have BK246:=n7_;have GW246:=n8_;have GE246:=n9_;have NB227_246:=n10_;have NB246_227:=n11_;have NB228_246:=n12_;have NB246_228:=n13_;have NB242_246:=n14_;have NB246_242:=n15_;clear n0_ n1_ n2_ n3_ n4_ n5_ n6_ n7_ n8_ n9_ n10_ n11_ n12_ n13_ n14_ n15_;clear hb hbox hg;obtain ⟨Ao46,co46,eo46⟩:=Kd.R_slice HO245.out;subst eo46;have hnb47:=NB246_227.out;have hnc47:=NB227_246.out;have hnb48:=NB246_228.out;have hnc48:=NB228_246.out;have hnb49:=NB246_242.out;have hnc49:=NB242_246.out;have hcz50_0 : w45.cell? ⟨gb246,0,none⟩ = some (.slice none 0 0):=(blk_cell BK246.out 0).trans rfl;have hfz50_0:=blk_frozen BK246.out 0))
   have n0_ : Aside0 (Kd.R k45 45 (w45.setCell ⟨gb246,0,none⟩ (.slice Ao46 t243.length co46)) w.heap.size (fun k_ => some k_ ≠ (.slice Ao40 t238.length co40 : Value).ownBlock ∧ some k_ ≠ (.slice Ao46 t243.length co46 : Value).ownBlock) v232 t231):=⟨by (with_reducible repeat (first | apply Kd.R_alloc | apply Kd.R_drewN | apply Kd.R_drew));exact Kd.R_mono (Kd.R_far (p:=⟨gb246,0,none⟩) (Kd.R_types HO233.out BK246.out (by decide)) (fun _ hk => hk.2) (.slice Ao46 t243.length co46)) (fun _ hk => ⟨hk.1.1,hk.1.2⟩)⟩
   have n1_ : Aside0 (Kd.R k45 45 (w45.setCell ⟨gb246,0,none⟩ (.slice Ao46 t243.length co46)) w.heap.size (fun k_ => some k_ ≠ (v232 : Value).ownBlock ∧ some k_ ≠ (.slice Ao46 t243.length co46 : Value).ownBlock) (.slice Ao40 t238.length co40) t238):=⟨by (with_reducible repeat (first | apply Kd.R_alloc | apply Kd.R_drewN | apply Kd.R_drew));exact Kd.R_mono (Kd.R_far (p:=⟨gb246,0,none⟩) (Kd.R_types HO240.out BK246.out (by decide)) (fun _ hk => hk.2) (.slice Ao46 t243.length co46)) (fun _ hk => ⟨hk.1.1,hk.1.2⟩)⟩
   have n2_ : Aside0 (Kd.R k45 45 (w45.setCell ⟨gb246,0,none⟩ (.slice Ao46 t243.length co46)) w.heap.size (fun k_ => some k_ ≠ (v232 : Value).ownBlock ∧ some k_ ≠ (.slice Ao40 t238.length co40 : Value).ownBlock) (.slice Ao46 t243.length co46) t243):=⟨by (with_reducible repeat (first | apply Kd.R_alloc | apply Kd.R_drewN | apply Kd.R_drew));exact Kd.R_mono (Kd.R_far (p:=⟨gb246,0,none⟩) (Kd.R_types HO245.out BK246.out (by decide)) (fun _ hk => hk.2) (.slice Ao46 t243.length co46)) (fun _ hk => ⟨hk.1.1.2,hk.1.2⟩)⟩
   have n3_ : Aside0 ((w45.setCell ⟨gb246,0,none⟩ (.slice Ao46 t243.length co46)).heap[gb227]? = some (.cells #[.slice A0_0 l0_0.length c0_0] 24 (0,0))):=⟨by (with_reducible repeat (first | refine blk_drewN ?_ _ | refine blk_drew ?_ | refine blk_alloc ?_ _));refine blk_far ?_ NB227_246.out _;(with_reducible repeat (first | refine blk_drewN ?_ _ | refine blk_drew ?_ | refine blk_alloc ?_ _));exact BK227.out⟩
   have n4_ : Aside0 ((w45.setCell ⟨gb246,0,none⟩ (.slice Ao46 t243.length co46)).heap[gb228]? = some (.cells #[.int .i64 a1_0,.string a1_1,.string a1_2,.string a1_3] 52 (0,0))):=⟨by (with_reducible repeat (first | refine blk_drewN ?_ _ | refine blk_drew ?_ | refine blk_alloc ?_ _));refine blk_far ?_ NB228_246.out _;(with_reducible repeat (first | refine blk_drewN ?_ _ | refine blk_drew ?_ | refine blk_alloc ?_ _));exact BK228.out⟩
   have n5_ : Aside0 ((w45.setCell ⟨gb246,0,none⟩ (.slice Ao46 t243.length co46)).heap[gb242]? = some (.cells #[.slice Ao40 t238.length co40] 30 (0,0))):=⟨by (with_reducible repeat (first | refine blk_drewN ?_ _ | refine blk_drew ?_ | refine blk_alloc ?_ _));refine blk_far ?_ NB242_246.out _;(with_reducible repeat (first | refine blk_drewN ?_ _ | refine blk_drew ?_ | refine blk_alloc ?_ _));exact BK242.out⟩
   have n6_ : Aside0 ((w45.setCell ⟨gb246,0,none⟩ (.slice Ao46 t243.length co46)).heap[gb246]? = some (.cells #[.slice Ao46 t243.length co46] 30 (0,0))):=⟨by (with_reducible repeat (first | refine blk_drewN ?_ _ | refine blk_drew ?_ | refine blk_alloc ?_ _));refine blk_put (cs:=#[.slice none 0 0]) ?_ 0 _ rfl;(with_reducible repeat (first | refine blk_drewN ?_ _ | refine blk_drew ?_ | refine blk_alloc ?_ _));exact BK246.out⟩
   have n7_ : Aside0 (Below w.heap.size w (w45.setCell ⟨gb246,0,none⟩ (.slice Ao46 t243.length co46))):=⟨by repeat (first | (with_reducible first | exact HB.out | apply below_alloc | apply pw_below_drewN | apply below_drew1 | refine below_set ?_ GE227.out | refine below_set ?_ GE228.out | refine below_set ?_ GE242.out | refine below_set ?_ GE246.out) | exact HB.out)⟩
   (try clear HO233)
   (try clear HO240)
   (try clear HO245)
   (try clear BK227)
   (try clear BK228)
   (try clear BK242)
   (try clear BK246)
   (try clear HB)
   generalize (w45.setCell ⟨gb246,0,none⟩ (.slice Ao46 t243.length co46)) = w51 at n0_ n1_ n2_ n3_ n4_ n5_ n6_ n7_ ⊢
   have HO233:=n0_
   have HO240:=n1_
   have HO245:=n2_
   have BK227:=n3_
   have BK228:=n4_
   have BK242:=n5_
   have BK246:=n6_
   have HB:=n7_
   clear n0_ n1_ n2_ n3_ n4_ n5_ n6_ n7_
   have n0_:=Aside0.mk (Kd.R_drew HO233.out)
   have n1_:=Aside0.mk (Kd.R_drew HO240.out)
   have n2_:=Aside0.mk (Kd.R_drew HO245.out)
   have n3_:=Aside0.mk (blk_drew BK227.out)
   have n4_:=Aside0.mk (blk_drew BK228.out)
   have n5_:=Aside0.mk (blk_drew BK242.out)
   have n6_:=Aside0.mk (blk_drew BK246.out)
   have n7_:=Aside0.mk (below_drew1 HB.out)
   clear HO233
   clear HO240
   clear HO245
   clear BK227
   clear BK228
   clear BK242
   clear BK246
   clear HB
   have HO233:=n0_
   have HO240:=n1_
   have HO245:=n2_
   have BK227:=n3_
   have BK228:=n4_
   have BK242:=n5_
   have BK246:=n6_
   have HB:=n7_
   clear n0_ n1_ n2_ n3_ n4_ n5_ n6_ n7_
   refine start_ (n:=10) (S:=fun w' => w'.cell? ⟨gb246,0,none⟩ = some (.slice Ao46 t243.length co46) ∧ w'.cell? ⟨gb228,0,none⟩ = some (.int .i64 a1_0) ∧ w'.cell? ⟨gb228,1,none⟩ = some (.string a1_1) ∧ w'.cell? ⟨gb228,2,none⟩ = some (.string a1_2) ∧ w'.cell? ⟨gb228,3,none⟩ = some (.string a1_3)) (ds:=[]) (zF0 10 0) (by kernel_rfl) rfl rfl ⟨(blk_cell BK246.out 0).trans rfl,(blk_cell BK228.out 0).trans rfl,(blk_cell BK228.out 1).trans rfl,(blk_cell BK228.out 2).trans rfl,(blk_cell BK228.out 3).trans rfl⟩ (fun hHeld => ?_);refine with_tabW laws_FnExactDoAct.tab10 laws_FnExactDoAct.bits10 (fun HT_ HW_ => ?_)
   generalize w51.drew = w52 at HO233 HO240 HO245 BK227 BK228 BK242 BK246 HB hHeld ⊢
   refine take_ (i:=0) (N:=some 37) (v:=?_) (a':=?_) (zF0 10 1) rfl rfl (take_ofW HT_.out HW_.out (by kernel_rfl)) (fun _ _ _ h => h) (Or.inl ⟨by rfl,?_⟩) hHeld ?_ ?_;rotate_left
   ·rintro w' ⟨s0,s1,s2,s3,s4⟩
    go_simp
    with_reducible rfl
   rotate_left
   ·simp only [Act.put,qA0,qB0,qC0,i64_w,i32_w];rfl
   refine take_ (i:=1) (N:=some 38) (v:=?_) (a':=?_) (zF0 10 3) rfl rfl (take_ofW HT_.out HW_.out (by kernel_rfl)) (fun _ _ _ h => h) (Or.inl ⟨by rfl,?_⟩) hHeld ?_ ?_;rotate_left
   ·rintro w' ⟨s0,s1,s2,s3,s4⟩
    go_simp
    with_reducible rfl
   rotate_left
   ·simp only [Act.put,qA0,qB0,qC0,i64_w,i32_w];rfl
   refine join_ (σ:=Value × Nat) 2 (zF0 10 255) (fun s_ => [(39,.agg #[.int .i64 t247,.string t248,.string t249,.string t250]),(40,.tuple #[.agg #[s_.1],.bool t254]),(9,.pointer (some ⟨s_.2,0,none⟩)),(36,.tuple #[.agg #[s_.1],.bool t254]),(41,.agg #[s_.1]),(42,.bool t254)]) (fun s_ w' => (w'.cell? ⟨gb246,0,none⟩ = some (.slice Ao46 t243.length co46) ∧ w'.cell? ⟨gb228,0,none⟩ = some (.int .i64 a1_0) ∧ w'.cell? ⟨gb228,1,none⟩ = some (.string a1_1) ∧ w'.cell? ⟨gb228,2,none⟩ = some (.string a1_2) ∧ w'.cell? ⟨gb228,3,none⟩ = some (.string a1_3)) ∧ (Kd.R k45 45 w' w.heap.size (fun k_ => some k_ ≠ (.slice Ao40 t238.length co40 : Value).ownBlock ∧ some k_ ≠ (.slice Ao46 t243.length co46 : Value).ownBlock ∧ some k_ ≠ (s_.1 : Value).ownBlock) v232 t231) ∧ (Kd.R k45 45 w' w.heap.size (fun k_ => some k_ ≠ (v232 : Value).ownBlock ∧ some k_ ≠ (.slice Ao46 t243.length co46 : Value).ownBlock ∧ some k_ ≠ (s_.1 : Value).ownBlock) (.slice Ao40 t238.length co40) t238) ∧ (Kd.R k45 45 w' w.heap.size (fun k_ => some k_ ≠ (v232 : Value).ownBlock ∧ some k_ ≠ (.slice Ao40 t238.length co40 : Value).ownBlock ∧ some k_ ≠ (s_.1 : Value).ownBlock) (.slice Ao46 t243.length co46) t243) ∧ (Kd.R k45 45 w' w.heap.size (fun k_ => some k_ ≠ (v232 : Value).ownBlock ∧ some k_ ≠ (.slice Ao40 t238.length co40 : Value).ownBlock ∧ some k_ ≠ (.slice Ao46 t243.length co46 : Value).ownBlock) s_.1 t251) ∧ (w'.heap[gb227]? = some (.cells #[.slice A0_0 l0_0.length c0_0] 24 (0,0))) ∧ (w'.heap[gb228]? = some (.cells #[.int .i64 a1_0,.string a1_1,.string a1_2,.string a1_3] 52 (0,0))) ∧ (w'.heap[gb242]? = some (.cells #[.slice Ao40 t238.length co40] 30 (0,0))) ∧ (w'.heap[gb246]? = some (.cells #[.slice Ao46 t243.length co46] 30 (0,0))) ∧ (w'.heap[s_.2]? = some (.cells #[.slice none 0 0] 30 (0,0))) ∧ (w.heap.size ≤ s_.2) ∧ (w.heap.size ≤ s_.2) ∧ (gb227 ≠ s_.2) ∧ (s_.2 ≠ gb227) ∧ (gb228 ≠ s_.2) ∧ (s_.2 ≠ gb228) ∧ (gb242 ≠ s_.2) ∧ (s_.2 ≠ gb242) ∧ (gb246 ≠ s_.2) ∧ (s_.2 ≠ gb246) ∧ (Below w.heap.size w w')) ?_ ?_
   rotate_left
   ·intro hCont
    refine two_ (i:=2) (j:=7) (Ni:=some 39) (Nj:=some 9) (zF0 10 7) (zF0 10 131) rfl rfl rfl rfl (two_of HT_.out (by kernel_rfl)) (by decide) (by decide) (fun K hK => ?_) (fun K hK => ?_)
    ·skip
     refine goes_ Try.func37 (by kernel_rfl) rfl #[.agg #[.int .i64 a1_0,.string a1_1,.string a1_2,.string a1_3]] (by rfl) rfl rfl zM0 ?_
     with_reducible refine (laws_toAct.calls a1_0 a1_1 a1_2 a1_3 t247 t248 t249 t250 _ A23.out).mono ?_
     rintro e w53 ⟨rfl,hb⟩
     refine ⟨_,rfl,?_⟩
     have n0_:=Aside0.mk (Kd.R_below (zR0 HO233.out) hb)
     have n1_:=Aside0.mk (Kd.R_below (zR0 HO240.out) hb)
     have n2_:=Aside0.mk (Kd.R_below (zR0 HO245.out) hb)
     have n3_:=Aside0.mk (zB0 BK227.out hb)
     have n4_:=Aside0.mk (zB0 BK228.out hb)
     have n5_:=Aside0.mk (zB0 BK242.out hb)
     have n6_:=Aside0.mk (zB0 BK246.out hb)
     have n7_:=Aside0.mk (zS0 HB.out hb)
     clear HO233
     clear HO240
     clear HO245
     clear BK227
     clear BK228
     clear BK242
     clear BK246
     clear HB
     have HO233:=n0_
     have HO240:=n1_
     have HO245:=n2_
     have BK227:=n3_
     have BK228:=n4_
     have BK242:=n5_
     have BK246:=n6_
     have HB:=n7_
     clear n0_ n1_ n2_ n3_ n4_ n5_ n6_ n7_
     (try clear hb)
     (try clear hb2)
     (try clear hk)
     (try clear hi)
     refine hK.out _ _ ⟨(blk_cell BK246.out 0).trans rfl,(blk_cell BK228.out 0).trans rfl,(blk_cell BK228.out 1).trans rfl,(blk_cell BK228.out 2).trans rfl,(blk_cell BK228.out 3).trans rfl⟩ (fun hHeld => ?_)
     clear hK K
     refine norm_ (a':=?_) ?_ ?_;rotate_left
     ·show Act.put _ (some 39) _ = _;simp only [Act.put,qA0,qB0,qC0,i64_w,i32_w];rfl
     refine two_ (i:=3) (j:=7) (Ni:=some 40) (Nj:=some 9) (zF0 10 15) (zF0 10 135) rfl rfl rfl rfl (two_of HT_.out (by kernel_rfl)) (by decide) (by decide) (fun K hK => ?_) (fun K hK => ?_)
     ·skip
      refine goes_ Try.func38 (by kernel_rfl) rfl #[.agg #[.slice Ao46 t243.length co46],.agg #[.int .i64 t247,.string t248,.string t249,.string t250]] (by rfl) rfl rfl zM0 ?_
      with_reducible refine (impl_DoAct.calls k _ _ t243 t247 t248 t249 t250 t251 t254 _ ?side1 ?side2 A24.out).mono ?_
      (case side1 => repeat (first | exact (Kd.R_reads' HO245.out).2.2 | (with_reducible refine Kd.C_alloc ?_ _) | (with_reducible refine Kd.C_drewN ?_ _) | (with_reducible refine Kd.C_drew ?_)))
      (case side2 => exact (Kd.R_reads' HO245.out).2.1)
      rintro e w54 ⟨v252,rfl,ho0,hb⟩
      refine ⟨_,rfl,?_⟩
      have n0_:=Aside0.mk (Kd.R_elder' (zR0 HO233.out) (Kd.R_base ho0) hb)
      have n1_:=Aside0.mk (Kd.R_elder' (zR0 HO240.out) (Kd.R_base ho0) hb)
      have n2_:=Aside0.mk (Kd.R_elder' (zR0 HO245.out) (Kd.R_base ho0) hb)
      have n3_:=Aside0.mk (Kd.R_lower (Kd.R_new' (Kd.R_new' (Kd.R_new' ho0 (Kd.R_lt (zR0 HO233.out))) (Kd.R_lt (zR0 HO240.out))) (Kd.R_lt (zR0 HO245.out))) (zZ0 HB.out))
      have n4_:=Aside0.mk (zB0 BK227.out hb)
      have n5_:=Aside0.mk (zB0 BK228.out hb)
      have n6_:=Aside0.mk (zB0 BK242.out hb)
      have n7_:=Aside0.mk (zB0 BK246.out hb)
      have n8_:=Aside0.mk (zS0 HB.out hb)
      clear HO233
      clear HO240
      clear HO245
      clear BK227
      clear BK228
      clear BK242
      clear BK246
      clear HB
      have HO233:=n0_
      have HO240:=n1_
      have HO245:=n2_
      have HO253:=n3_
      have BK227:=n4_
      have BK228:=n5_
      have BK242:=n6_
      have BK246:=n7_
      have HB:=n8_
      clear n0_ n1_ n2_ n3_ n4_ n5_ n6_ n7_ n8_
      (try clear hb)
      (try clear hb2)
      (try clear hk)
      (try clear hi)
      (try clear ho0)
      refine hK.out _ _ ⟨(blk_cell BK246.out 0).trans rfl,(blk_cell BK228.out 0).trans rfl,(blk_cell BK228.out 1).trans rfl,(blk_cell BK228.out 2).trans rfl,(blk_cell BK228.out 3).trans rfl⟩ (fun hHeld => ?_)
      clear hK K
      refine norm_ (a':=?_) ?_ ?_;rotate_left
      ·show Act.put _ (some 40) _ = _;simp only [Act.put,qA0,qB0,qC0,i64_w,i32_w];rfl
      refine zP0 (i:=4) (N:=some 36) (zF0 10 31) rfl rfl HT_.out ?_
      refine zP0 (i:=5) (N:=some 41) (zF0 10 63) rfl rfl HT_.out ?_
      refine zP0 (i:=6) (N:=some 42) (zF0 10 127) rfl rfl HT_.out ?_
      refine one_ (i:=7) (N:=some 9) (zF0 10 255) rfl rfl (one_of HT_.out (by kernel_rfl)) (by decide) (fun K hK => ?_)
      refine box_step ?hg (N:=9) ?hd (cs:=#[.slice none 0 0]) (t:=30) ?hr ?_;(case hd => rfl);(case hg => rfl);(case hr => first | (go_simp;done) | (go_simp;rfl))
      intro gb255 hg w55 hbox hb
      have n0_:=Aside0.mk (Kd.R_below (zR0 HO233.out) hb)
      have n1_:=Aside0.mk (Kd.R_below (zR0 HO240.out) hb)
      have n2_:=Aside0.mk (Kd.R_below (zR0 HO245.out) hb)
      have n3_:=Aside0.mk (Kd.R_below (zR0 HO253.out) hb)
      have n4_:=Aside0.mk (zB0 BK227.out hb)
      have n5_:=Aside0.mk (zB0 BK228.out hb)
      have n6_:=Aside0.mk (zB0 BK242.out hb)
      have n7_:=Aside0.mk (zB0 BK246.out hb)
      have n8_:=Aside0.mk (zS0 HB.out hb)
      have n9_:=Aside0.mk (hbox)
      have n10_:=Aside0.mk ((by rw [hg];exact (zZ0 HB.out) : w.heap.size ≤ gb255))
      have n11_:=Aside0.mk ((by rw [hg];exact (zZ0 HB.out) : w.heap.size ≤ gb255))
      have n12_:=Aside0.mk ((zL0 hg BK227.out : gb227 ≠ gb255))
      have n13_:=Aside0.mk ((zG0 hg BK227.out : gb255 ≠ gb227))
      have n14_:=Aside0.mk ((zL0 hg BK228.out : gb228 ≠ gb255))
      have n15_:=Aside0.mk ((zG0 hg BK228.out : gb255 ≠ gb228))
      have n16_:=Aside0.mk ((zL0 hg BK242.out : gb242 ≠ gb255))
      have n17_:=Aside0.mk ((zG0 hg BK242.out : gb255 ≠ gb242))
      have n18_:=Aside0.mk ((zL0 hg BK246.out : gb246 ≠ gb255))
      have n19_:=Aside0.mk ((zG0 hg BK246.out : gb255 ≠ gb246))
      clear HO233
      clear HO240
      clear HO245
      clear HO253
      clear BK227
      clear BK228
      clear BK242
      clear BK246
      clear HB
      have HO233:=n0_
      have HO240:=n1_
      have HO245:=n2_
      have HO253:=n3_
      have BK227:=n4_
      have BK228:=n5_
      have BK242:=n6_
      have BK246:=n7_
      have HB:=n8_
      have BK255:=n9_
      have GW255:=n10_
      have GE255:=n11_
      have NB227_255:=n12_
      have NB255_227:=n13_
      have NB228_255:=n14_
      have NB255_228:=n15_
      have NB242_255:=n16_
      have NB255_242:=n17_
      have NB246_255:=n18_
      have NB255_246:=n19_
      clear n0_ n1_ n2_ n3_ n4_ n5_ n6_ n7_ n8_ n9_ n10_ n11_ n12_ n13_ n14_ n15_ n16_ n17_ n18_ n19_
      clear hb hbox hg
      refine hK.out _ _ ⟨(blk_cell BK246.out 0).trans rfl,(blk_cell BK228.out 0).trans rfl,(blk_cell BK228.out 1).trans rfl,(blk_cell BK228.out 2).trans rfl,(blk_cell BK228.out 3).trans rfl⟩ (fun hHeld => ?_)
      clear hK K
      refine norm_ (a':=?_) ?_ ?_;rotate_left
      ·show Act.put _ (some 9) _ = _;simp only [Act.put,qA0,qB0,qC0,i64_w,i32_w];rfl
      exact norm_ (by simp only [putAll,Act.put,qA0,qB0,qC0]) (hCont (v252,gb255) _ ⟨hHeld,(by (with_reducible repeat (first | apply Kd.R_alloc | apply Kd.R_drewN | apply Kd.R_drew));exact Kd.R_mono HO233.out (fun _ hk => ⟨hk.1.1,⟨hk.1.2,hk.2⟩⟩)),(by (with_reducible repeat (first | apply Kd.R_alloc | apply Kd.R_drewN | apply Kd.R_drew));exact Kd.R_mono HO240.out (fun _ hk => ⟨hk.1.1,⟨hk.1.2,hk.2⟩⟩)),(by (with_reducible repeat (first | apply Kd.R_alloc | apply Kd.R_drewN | apply Kd.R_drew));exact Kd.R_mono HO245.out (fun _ hk => ⟨hk.1.1,⟨hk.1.2,hk.2⟩⟩)),(by (with_reducible repeat (first | apply Kd.R_alloc | apply Kd.R_drewN | apply Kd.R_drew));exact Kd.R_mono HO253.out (fun _ hk => ⟨hk.1.1.2,⟨hk.1.2,hk.2⟩⟩)),(zK0 BK227.out),(zK0 BK228.out),(zK0 BK242.out),(zK0 BK246.out),(zK0 BK255.out),GW255.out,GE255.out,NB227_255.out,NB255_227.out,NB228_255.out,NB255_228.out,NB242_255.out,NB255_242.out,NB246_255.out,NB255_246.out,(by repeat (first | (with_reducible first | exact HB.out | apply below_alloc | apply pw_below_drewN | apply below_drew1 | refine below_set ?_ GE227.out | refine below_set ?_ GE228.out | refine below_set ?_ GE242.out | refine below_set ?_ GE246.out | refine below_set ?_ GE255.out) | exact HB.out))⟩)
     ·skip
      refine box_step ?hg (N:=9) ?hd (cs:=#[.slice none 0 0]) (t:=30) ?hr ?_;(case hd => rfl);(case hg => rfl);(case hr => first | (go_simp;done) | (go_simp;rfl))
      intro gb255 hg w54 hbox hb
      have n0_:=Aside0.mk (Kd.R_below (zR0 HO233.out) hb)
      have n1_:=Aside0.mk (Kd.R_below (zR0 HO240.out) hb)
      have n2_:=Aside0.mk (Kd.R_below (zR0 HO245.out) hb)
      have n3_:=Aside0.mk (zB0 BK227.out hb)
      have n4_:=Aside0.mk (zB0 BK228.out hb)
      have n5_:=Aside0.mk (zB0 BK242.out hb)
      have n6_:=Aside0.mk (zB0 BK246.out hb)
      have n7_:=Aside0.mk (zS0 HB.out hb)
      have n8_:=Aside0.mk (hbox)
      have n9_:=Aside0.mk ((by rw [hg];exact (zZ0 HB.out) : w.heap.size ≤ gb255))
      have n10_:=Aside0.mk ((by rw [hg];exact (zZ0 HB.out) : w.heap.size ≤ gb255))
      have n11_:=Aside0.mk ((zL0 hg BK227.out : gb227 ≠ gb255))
      have n12_:=Aside0.mk ((zG0 hg BK227.out : gb255 ≠ gb227))
      have n13_:=Aside0.mk ((zL0 hg BK228.out : gb228 ≠ gb255))
      have n14_:=Aside0.mk ((zG0 hg BK228.out : gb255 ≠ gb228))
      have n15_:=Aside0.mk ((zL0 hg BK242.out : gb242 ≠ gb255))
      have n16_:=Aside0.mk ((zG0 hg BK242.out : gb255 ≠ gb242))
      have n17_:=Aside0.mk ((zL0 hg BK246.out : gb246 ≠ gb255))
      have n18_:=Aside0.mk ((zG0 hg BK246.out : gb255 ≠ gb246))
      clear HO233
      clear HO240
      clear HO245
      clear BK227
      clear BK228
      clear BK242
      clear BK246
      clear HB
      have HO233:=n0_
      have HO240:=n1_
      have HO245:=n2_
      have BK227:=n3_
      have BK228:=n4_
      have BK242:=n5_
      have BK246:=n6_
      have HB:=n7_
      have BK255:=n8_
      have GW255:=n9_
      have GE255:=n10_
      have NB227_255:=n11_
      have NB255_227:=n12_
      have NB228_255:=n13_
      have NB255_228:=n14_
      have NB242_255:=n15_
      have NB255_242:=n16_
      have NB246_255:=n17_
      have NB255_246:=n18_
      clear n0_ n1_ n2_ n3_ n4_ n5_ n6_ n7_ n8_ n9_ n10_ n11_ n12_ n13_ n14_ n15_ n16_ n17_ n18_
      clear hb hbox hg
      refine hK.out _ _ ⟨(blk_cell BK246.out 0).trans rfl,(blk_cell BK228.out 0).trans rfl,(blk_cell BK228.out 1).trans rfl,(blk_cell BK228.out 2).trans rfl,(blk_cell BK228.out 3).trans rfl⟩ (fun hHeld => ?_)
      clear hK K
      refine norm_ (a':=?_) ?_ ?_;rotate_left
      ·show Act.put _ (some 9) _ = _;simp only [Act.put,qA0,qB0,qC0,i64_w,i32_w];rfl
      refine one_ (i:=3) (N:=some 40) (zF0 10 143) rfl rfl (one_of HT_.out (by kernel_rfl)) (by decide) (fun K hK => ?_)
      refine goes_ Try.func38 (by kernel_rfl) rfl #[.agg #[.slice Ao46 t243.length co46],.agg #[.int .i64 t247,.string t248,.string t249,.string t250]] (by rfl) rfl rfl zM0 ?_
      with_reducible refine (impl_DoAct.calls k _ _ t243 t247 t248 t249 t250 t251 t254 _ ?side1 ?side2 A24.out).mono ?_
      (case side1 => repeat (first | exact (Kd.R_reads' HO245.out).2.2 | (with_reducible refine Kd.C_alloc ?_ _) | (with_reducible refine Kd.C_drewN ?_ _) | (with_reducible refine Kd.C_drew ?_)))
      (case side2 => exact (Kd.R_reads' HO245.out).2.1)
      rintro e w55 ⟨v252,rfl,ho0,hb⟩
      refine ⟨_,rfl,?_⟩
      have n0_:=Aside0.mk (Kd.R_elder' (zR0 HO233.out) (Kd.R_base ho0) hb)
      have n1_:=Aside0.mk (Kd.R_elder' (zR0 HO240.out) (Kd.R_base ho0) hb)
      have n2_:=Aside0.mk (Kd.R_elder' (zR0 HO245.out) (Kd.R_base ho0) hb)
      have n3_:=Aside0.mk (Kd.R_lower (Kd.R_new' (Kd.R_new' (Kd.R_new' ho0 (Kd.R_lt (zR0 HO233.out))) (Kd.R_lt (zR0 HO240.out))) (Kd.R_lt (zR0 HO245.out))) (zZ0 HB.out))
      have n4_:=Aside0.mk (zB0 BK227.out hb)
      have n5_:=Aside0.mk (zB0 BK228.out hb)
      have n6_:=Aside0.mk (zB0 BK242.out hb)
      have n7_:=Aside0.mk (zB0 BK246.out hb)
      have n8_:=Aside0.mk (zB0 BK255.out hb)
      have n9_:=Aside0.mk (zS0 HB.out hb)
      clear HO233
      clear HO240
      clear HO245
      clear BK227
      clear BK228
      clear BK242
      clear BK246
      clear BK255
      clear HB
      have HO233:=n0_
      have HO240:=n1_
      have HO245:=n2_
      have HO253:=n3_
      have BK227:=n4_
      have BK228:=n5_
      have BK242:=n6_
      have BK246:=n7_
      have BK255:=n8_
      have HB:=n9_
      clear n0_ n1_ n2_ n3_ n4_ n5_ n6_ n7_ n8_ n9_
      (try clear hb)
      (try clear hb2)
      (try clear hk)
      (try clear hi)
      (try clear ho0)
      refine hK.out _ _ ⟨(blk_cell BK246.out 0).trans rfl,(blk_cell BK228.out 0).trans rfl,(blk_cell BK228.out 1).trans rfl,(blk_cell BK228.out 2).trans rfl,(blk_cell BK228.out 3).trans rfl⟩ (fun hHeld => ?_)
      clear hK K
      refine norm_ (a':=?_) ?_ ?_;rotate_left
      ·show Act.put _ (some 40) _ = _;simp only [Act.put,qA0,qB0,qC0,i64_w,i32_w];rfl
      refine zP0 (i:=4) (N:=some 36) (zF0 10 159) rfl rfl HT_.out ?_
      refine zP0 (i:=5) (N:=some 41) (zF0 10 191) rfl rfl HT_.out ?_
      refine zP0 (i:=6) (N:=some 42) (zF0 10 255) rfl rfl HT_.out ?_
      exact norm_ (by simp only [putAll,Act.put,qA0,qB0,qC0]) (hCont (v252,gb255) _ ⟨hHeld,(by (with_reducible repeat (first | apply Kd.R_alloc | apply Kd.R_drewN | apply Kd.R_drew));exact Kd.R_mono HO233.out (fun _ hk => ⟨hk.1.1,⟨hk.1.2,hk.2⟩⟩)),(by (with_reducible repeat (first | apply Kd.R_alloc | apply Kd.R_drewN | apply Kd.R_drew));exact Kd.R_mono HO240.out (fun _ hk => ⟨hk.1.1,⟨hk.1.2,hk.2⟩⟩)),(by (with_reducible repeat (first | apply Kd.R_alloc | apply Kd.R_drewN | apply Kd.R_drew));exact Kd.R_mono HO245.out (fun _ hk => ⟨hk.1.1,⟨hk.1.2,hk.2⟩⟩)),(by (with_reducible repeat (first | apply Kd.R_alloc | apply Kd.R_drewN | apply Kd.R_drew));exact Kd.R_mono HO253.out (fun _ hk => ⟨hk.1.1.2,⟨hk.1.2,hk.2⟩⟩)),(zK0 BK227.out),(zK0 BK228.out),(zK0 BK242.out),(zK0 BK246.out),(zK0 BK255.out),GW255.out,GE255.out,NB227_255.out,NB255_227.out,NB228_255.out,NB255_228.out,NB242_255.out,NB255_242.out,NB246_255.out,NB255_246.out,(by repeat (first | (with_reducible first | exact HB.out | apply below_alloc | apply pw_below_drewN | apply below_drew1 | refine below_set ?_ GE227.out | refine below_set ?_ GE228.out | refine below_set ?_ GE242.out | refine below_set ?_ GE246.out | refine below_set ?_ GE255.out) | exact HB.out))⟩)
    ·skip
     refine box_step ?hg (N:=9) ?hd (cs:=#[.slice none 0 0]) (t:=30) ?hr ?_;(case hd => rfl);(case hg => rfl);(case hr => first | (go_simp;done) | (go_simp;rfl))
     intro gb255 hg w53 hbox hb
     have n0_:=Aside0.mk (Kd.R_below (zR0 HO233.out) hb)
     have n1_:=Aside0.mk (Kd.R_below (zR0 HO240.out) hb)
     have n2_:=Aside0.mk (Kd.R_below (zR0 HO245.out) hb)
     have n3_:=Aside0.mk (zB0 BK227.out hb)
     have n4_:=Aside0.mk (zB0 BK228.out hb)
     have n5_:=Aside0.mk (zB0 BK242.out hb)
     have n6_:=Aside0.mk (zB0 BK246.out hb)
     have n7_:=Aside0.mk (zS0 HB.out hb)
     have n8_:=Aside0.mk (hbox)
     have n9_:=Aside0.mk ((by rw [hg];exact (zZ0 HB.out) : w.heap.size ≤ gb255))
     have n10_:=Aside0.mk ((by rw [hg];exact (zZ0 HB.out) : w.heap.size ≤ gb255))
     have n11_:=Aside0.mk ((zL0 hg BK227.out : gb227 ≠ gb255))
     have n12_:=Aside0.mk ((zG0 hg BK227.out : gb255 ≠ gb227))
     have n13_:=Aside0.mk ((zL0 hg BK228.out : gb228 ≠ gb255))
     have n14_:=Aside0.mk ((zG0 hg BK228.out : gb255 ≠ gb228))
     have n15_:=Aside0.mk ((zL0 hg BK242.out : gb242 ≠ gb255))
     have n16_:=Aside0.mk ((zG0 hg BK242.out : gb255 ≠ gb242))
     have n17_:=Aside0.mk ((zL0 hg BK246.out : gb246 ≠ gb255))
     have n18_:=Aside0.mk ((zG0 hg BK246.out : gb255 ≠ gb246))
     clear HO233
     clear HO240
     clear HO245
     clear BK227
     clear BK228
     clear BK242
     clear BK246
     clear HB
     have HO233:=n0_
     have HO240:=n1_
     have HO245:=n2_
     have BK227:=n3_
     have BK228:=n4_
     have BK242:=n5_
     have BK246:=n6_
     have HB:=n7_
     have BK255:=n8_
     have GW255:=n9_
     have GE255:=n10_
     have NB227_255:=n11_
     have NB255_227:=n12_
     have NB228_255:=n13_
     have NB255_228:=n14_
     have NB242_255:=n15_
     have NB255_242:=n16_
     have NB246_255:=n17_
     have NB255_246:=n18_
     clear n0_ n1_ n2_ n3_ n4_ n5_ n6_ n7_ n8_ n9_ n10_ n11_ n12_ n13_ n14_ n15_ n16_ n17_ n18_
     clear hb hbox hg
     refine hK.out _ _ ⟨(blk_cell BK246.out 0).trans rfl,(blk_cell BK228.out 0).trans rfl,(blk_cell BK228.out 1).trans rfl,(blk_cell BK228.out 2).trans rfl,(blk_cell BK228.out 3).trans rfl⟩ (fun hHeld => ?_)
     clear hK K
     refine norm_ (a':=?_) ?_ ?_;rotate_left
     ·show Act.put _ (some 9) _ = _;simp only [Act.put,qA0,qB0,qC0,i64_w,i32_w];rfl
     refine one_ (i:=2) (N:=some 39) (zF0 10 135) rfl rfl (one_of HT_.out (by kernel_rfl)) (by decide) (fun K hK => ?_)
     refine goes_ Try.func37 (by kernel_rfl) rfl #[.agg #[.int .i64 a1_0,.string a1_1,.string a1_2,.string a1_3]] (by rfl) rfl rfl zM0 ?_
     with_reducible refine (laws_toAct.calls a1_0 a1_1 a1_2 a1_3 t247 t248 t249 t250 _ A23.out).mono ?_
     rintro e w54 ⟨rfl,hb⟩
     refine ⟨_,rfl,?_⟩
     have n0_:=Aside0.mk (Kd.R_below (zR0 HO233.out) hb)
     have n1_:=Aside0.mk (Kd.R_below (zR0 HO240.out) hb)
     have n2_:=Aside0.mk (Kd.R_below (zR0 HO245.out) hb)
     have n3_:=Aside0.mk (zB0 BK227.out hb)
     have n4_:=Aside0.mk (zB0 BK228.out hb)
     have n5_:=Aside0.mk (zB0 BK242.out hb)
     have n6_:=Aside0.mk (zB0 BK246.out hb)
     have n7_:=Aside0.mk (zB0 BK255.out hb)
     have n8_:=Aside0.mk (zS0 HB.out hb)
     clear HO233
     clear HO240
     clear HO245
     clear BK227
     clear BK228
     clear BK242
     clear BK246
     clear BK255
     clear HB
     have HO233:=n0_
     have HO240:=n1_
     have HO245:=n2_
     have BK227:=n3_
     have BK228:=n4_
     have BK242:=n5_
     have BK246:=n6_
     have BK255:=n7_
     have HB:=n8_
     clear n0_ n1_ n2_ n3_ n4_ n5_ n6_ n7_ n8_
     (try clear hb)
     (try clear hb2)
     (try clear hk)
     (try clear hi)
     refine hK.out _ _ ⟨(blk_cell BK246.out 0).trans rfl,(blk_cell BK228.out 0).trans rfl,(blk_cell BK228.out 1).trans rfl,(blk_cell BK228.out 2).trans rfl,(blk_cell BK228.out 3).trans rfl⟩ (fun hHeld => ?_)
     clear hK K
     refine norm_ (a':=?_) ?_ ?_;rotate_left
     ·show Act.put _ (some 39) _ = _;simp only [Act.put,qA0,qB0,qC0,i64_w,i32_w];rfl
     refine one_ (i:=3) (N:=some 40) (zF0 10 143) rfl rfl (one_of HT_.out (by kernel_rfl)) (by decide) (fun K hK => ?_)
     refine goes_ Try.func38 (by kernel_rfl) rfl #[.agg #[.slice Ao46 t243.length co46],.agg #[.int .i64 t247,.string t248,.string t249,.string t250]] (by rfl) rfl rfl zM0 ?_
     with_reducible refine (impl_DoAct.calls k _ _ t243 t247 t248 t249 t250 t251 t254 _ ?side1 ?side2 A24.out).mono ?_
     (case side1 => repeat (first | exact (Kd.R_reads' HO245.out).2.2 | (with_reducible refine Kd.C_alloc ?_ _) | (with_reducible refine Kd.C_drewN ?_ _) | (with_reducible refine Kd.C_drew ?_)))
     (case side2 => exact (Kd.R_reads' HO245.out).2.1)
     rintro e w55 ⟨v252,rfl,ho0,hb⟩
     refine ⟨_,rfl,?_⟩
     have n0_:=Aside0.mk (Kd.R_elder' (zR0 HO233.out) (Kd.R_base ho0) hb)
     have n1_:=Aside0.mk (Kd.R_elder' (zR0 HO240.out) (Kd.R_base ho0) hb)
     have n2_:=Aside0.mk (Kd.R_elder' (zR0 HO245.out) (Kd.R_base ho0) hb)
     have n3_:=Aside0.mk (Kd.R_lower (Kd.R_new' (Kd.R_new' (Kd.R_new' ho0 (Kd.R_lt (zR0 HO233.out))) (Kd.R_lt (zR0 HO240.out))) (Kd.R_lt (zR0 HO245.out))) (zZ0 HB.out))
     have n4_:=Aside0.mk (zB0 BK227.out hb)
     have n5_:=Aside0.mk (zB0 BK228.out hb)
     have n6_:=Aside0.mk (zB0 BK242.out hb)
     have n7_:=Aside0.mk (zB0 BK246.out hb)
     have n8_:=Aside0.mk (zB0 BK255.out hb)
     have n9_:=Aside0.mk (zS0 HB.out hb)
     clear HO233
     clear HO240
     clear HO245
     clear BK227
     clear BK228
     clear BK242
     clear BK246
     clear BK255
     clear HB
     have HO233:=n0_
     have HO240:=n1_
     have HO245:=n2_
     have HO253:=n3_
     have BK227:=n4_
     have BK228:=n5_
     have BK242:=n6_
     have BK246:=n7_
     have BK255:=n8_
     have HB:=n9_
     clear n0_ n1_ n2_ n3_ n4_ n5_ n6_ n7_ n8_ n9_
     (try clear hb)
     (try clear hb2)
     (try clear hk)
     (try clear hi)
     (try clear ho0)
     refine hK.out _ _ ⟨(blk_cell BK246.out 0).trans rfl,(blk_cell BK228.out 0).trans rfl,(blk_cell BK228.out 1).trans rfl,(blk_cell BK228.out 2).trans rfl,(blk_cell BK228.out 3).trans rfl⟩ (fun hHeld => ?_)
     clear hK K
     refine norm_ (a':=?_) ?_ ?_;rotate_left
     ·show Act.put _ (some 40) _ = _;simp only [Act.put,qA0,qB0,qC0,i64_w,i32_w];rfl
     refine zP0 (i:=4) (N:=some 36) (zF0 10 159) rfl rfl HT_.out ?_
     refine zP0 (i:=5) (N:=some 41) (zF0 10 191) rfl rfl HT_.out ?_
     refine zP0 (i:=6) (N:=some 42) (zF0 10 255) rfl rfl HT_.out ?_
     exact norm_ (by simp only [putAll,Act.put,qA0,qB0,qC0]) (hCont (v252,gb255) _ ⟨hHeld,(by (with_reducible repeat (first | apply Kd.R_alloc | apply Kd.R_drewN | apply Kd.R_drew));exact Kd.R_mono HO233.out (fun _ hk => ⟨hk.1.1,⟨hk.1.2,hk.2⟩⟩)),(by (with_reducible repeat (first | apply Kd.R_alloc | apply Kd.R_drewN | apply Kd.R_drew));exact Kd.R_mono HO240.out (fun _ hk => ⟨hk.1.1,⟨hk.1.2,hk.2⟩⟩)),(by (with_reducible repeat (first | apply Kd.R_alloc | apply Kd.R_drewN | apply Kd.R_drew));exact Kd.R_mono HO245.out (fun _ hk => ⟨hk.1.1,⟨hk.1.2,hk.2⟩⟩)),(by (with_reducible repeat (first | apply Kd.R_alloc | apply Kd.R_drewN | apply Kd.R_drew));exact Kd.R_mono HO253.out (fun _ hk => ⟨hk.1.1.2,⟨hk.1.2,hk.2⟩⟩)),(zK0 BK227.out),(zK0 BK228.out),(zK0 BK242.out),(zK0 BK246.out),(zK0 BK255.out),GW255.out,GE255.out,NB227_255.out,NB255_227.out,NB228_255.out,NB255_228.out,NB242_255.out,NB255_242.out,NB246_255.out,NB255_246.out,(by repeat (first | (with_reducible first | exact HB.out | apply below_alloc | apply pw_below_drewN | apply below_drew1 | refine below_set ?_ GE227.out | refine below_set ?_ GE228.out | refine below_set ?_ GE242.out | refine below_set ?_ GE246.out | refine below_set ?_ GE255.out) | exact HB.out))⟩)
   rintro ⟨v252,gb255⟩ w56 ⟨hS_,h0_,h1_,h2_,h3_,h4_,h5_,h6_,h7_,h8_,h9_,h10_,h11_,h12_,h13_,h14_,h15_,h16_,h17_,h18_,h19_⟩
   have n0_ : Aside0 (Kd.R k45 45 w56 w.heap.size (fun k_ => some k_ ≠ (.slice Ao40 t238.length co40 : Value).ownBlock ∧ some k_ ≠ (.slice Ao46 t243.length co46 : Value).ownBlock ∧ some k_ ≠ (v252 : Value).ownBlock) v232 t231):=⟨h0_⟩
   have n1_ : Aside0 (Kd.R k45 45 w56 w.heap.size (fun k_ => some k_ ≠ (v232 : Value).ownBlock ∧ some k_ ≠ (.slice Ao46 t243.length co46 : Value).ownBlock ∧ some k_ ≠ (v252 : Value).ownBlock) (.slice Ao40 t238.length co40) t238):=⟨h1_⟩
   have n2_ : Aside0 (Kd.R k45 45 w56 w.heap.size (fun k_ => some k_ ≠ (v232 : Value).ownBlock ∧ some k_ ≠ (.slice Ao40 t238.length co40 : Value).ownBlock ∧ some k_ ≠ (v252 : Value).ownBlock) (.slice Ao46 t243.length co46) t243):=⟨h2_⟩
   have n3_ : Aside0 (Kd.R k45 45 w56 w.heap.size (fun k_ => some k_ ≠ (v232 : Value).ownBlock ∧ some k_ ≠ (.slice Ao40 t238.length co40 : Value).ownBlock ∧ some k_ ≠ (.slice Ao46 t243.length co46 : Value).ownBlock) v252 t251):=⟨h3_⟩
   have n4_ : Aside0 (w56.heap[gb227]? = some (.cells #[.slice A0_0 l0_0.length c0_0] 24 (0,0))):=⟨h4_⟩
   have n5_ : Aside0 (w56.heap[gb228]? = some (.cells #[.int .i64 a1_0,.string a1_1,.string a1_2,.string a1_3] 52 (0,0))):=⟨h5_⟩
   have n6_ : Aside0 (w56.heap[gb242]? = some (.cells #[.slice Ao40 t238.length co40] 30 (0,0))):=⟨h6_⟩
   have n7_ : Aside0 (w56.heap[gb246]? = some (.cells #[.slice Ao46 t243.length co46] 30 (0,0))):=⟨h7_⟩
   have n8_ : Aside0 (w56.heap[gb255]? = some (.cells #[.slice none 0 0] 30 (0,0))):=⟨h8_⟩
   have n9_ : Aside0 (w.heap.size ≤ gb255):=⟨h9_⟩
   have n10_ : Aside0 (w.heap.size ≤ gb255):=⟨h10_⟩
   have n11_ : Aside0 (gb227 ≠ gb255):=⟨h11_⟩
   have n12_ : Aside0 (gb255 ≠ gb227):=⟨h12_⟩
   have n13_ : Aside0 (gb228 ≠ gb255):=⟨h13_⟩
   have n14_ : Aside0 (gb255 ≠ gb228):=⟨h14_⟩
   have n15_ : Aside0 (gb242 ≠ gb255):=⟨h15_⟩
   have n16_ : Aside0 (gb255 ≠ gb242):=⟨h16_⟩
   have n17_ : Aside0 (gb246 ≠ gb255):=⟨h17_⟩
   have n18_ : Aside0 (gb255 ≠ gb246):=⟨h18_⟩
   have n19_ : Aside0 (Below w.heap.size w w56):=⟨h19_⟩
   clear HO233
   clear HO240
   clear HO245
   clear BK227
   clear BK228
   clear BK242
   clear BK246
   clear HB
   clear h0_ h1_ h2_ h3_ h4_ h5_ h6_ h7_ h8_ h9_ h10_ h11_ h12_ h13_ h14_ h15_ h16_ h17_ h18_ h19_
   have HO233:=n0_
   have HO240:=n1_
   have HO245:=n2_
   have HO253:=n3_
   have BK227:=n4_
   have BK228:=n5_
   have BK242:=n6_
   have BK246:=n7_
   have BK255:=n8_
   have GW255:=n9_
   have GE255:=n10_
   have NB227_255:=n11_
   have NB255_227:=n12_
   have NB228_255:=n13_
   have NB255_228:=n14_
   have NB242_255:=n15_
   have NB255_242:=n16_
   have NB246_255:=n17_
   have NB255_246:=n18_
   have HB:=n19_
   clear n0_ n1_ n2_ n3_ n4_ n5_ n6_ n7_ n8_ n9_ n10_ n11_ n12_ n13_ n14_ n15_ n16_ n17_ n18_ n19_
   have hHeld : w56.cell? ⟨gb246,0,none⟩ = some (.slice Ao46 t243.length co46) ∧ w56.cell? ⟨gb228,0,none⟩ = some (.int .i64 a1_0) ∧ w56.cell? ⟨gb228,1,none⟩ = some (.string a1_1) ∧ w56.cell? ⟨gb228,2,none⟩ = some (.string a1_2) ∧ w56.cell? ⟨gb228,3,none⟩ = some (.string a1_3):=hS_
   obtain ⟨Ao57,co57,eo57⟩:=Kd.R_slice HO253.out
   (first | subst eo57 | (injection eo57 with f1_ f2_ f3_;have f4_:=f1_.symm;have f5_:=f3_.symm;clear f1_ f2_ f3_;subst f4_;subst f5_))
   refine norm_ (a':=?_) ?_ ?_;rotate_left
   ·simp only [putAll,Act.put,qA0,qB0,qC0]
    rfl
   refine one_ (i:=8) (N:=none) (zF0 10 511) rfl rfl (one_of HT_.out (by kernel_rfl)) (by decide) (fun K hK => ?_)
   have hs58 : w56.cell? ⟨gb255,0,none⟩ = some (.slice none 0 0):=(blk_cell BK255.out 0).trans rfl
   have hfs58:=blk_frozen BK255.out 0
   have hns58_0:=NB227_255.out
   have hns58_1:=NB228_255.out
   have hns58_2:=NB242_255.out
   have hns58_3:=NB246_255.out
   have hms58_0:=NB255_227.out
   have hms58_1:=NB255_228.out
   have hms58_2:=NB255_242.out
   have hms58_3:=NB255_246.out
   refine skip_ (w1:=?_) (by rfl) rfl ?_ ?_;rotate_left
   ·go_simp
    rfl
   refine hK.out _ _ ⟨((cell_far (p:=⟨gb255,_,none⟩) NB246_255.out _).trans (hHeld.1)),((cell_far (p:=⟨gb255,_,none⟩) NB228_255.out _).trans (hHeld.2.1)),((cell_far (p:=⟨gb255,_,none⟩) NB228_255.out _).trans (hHeld.2.2.1)),((cell_far (p:=⟨gb255,_,none⟩) NB228_255.out _).trans (hHeld.2.2.2.1)),((cell_far (p:=⟨gb255,_,none⟩) NB228_255.out _).trans (hHeld.2.2.2.2))⟩ (fun hHeld => ?_)
   clear hK K
   refine zP0 (i:=9) (N:=some 10) (zF0 10 1023) rfl rfl HT_.out ?_
   refine done_ (done_of HT_.out (by kernel_rfl)) ?_
   go_upto_region 11 with (fail)
   go_cut [51] (fun v51 wc => ∃ (kq : Nat) (x51_24 : Bool),v51 = .bool x51_24 ∧ Aside0 (laws_FnExactDoAct.j0 kq t241 t254 x51_24 l0_0 a1_0 a1_1 a1_2 a1_3 t238 t243 t251 = some r) ∧ Aside0 (kq ≤ k) ∧ Aside0 (Kd.R k45 45 wc w.heap.size (fun k_ => some k_ ≠ ((.slice Ao46 t243.length co46) : Value).ownBlock ∧ some k_ ≠ ((.slice Ao57 t251.length co57) : Value).ownBlock) (.slice Ao40 t238.length co40) t238) ∧ Aside0 (Kd.R k45 45 wc w.heap.size (fun k_ => some k_ ≠ ((.slice Ao40 t238.length co40) : Value).ownBlock ∧ some k_ ≠ ((.slice Ao57 t251.length co57) : Value).ownBlock) (.slice Ao46 t243.length co46) t243) ∧ Aside0 (Kd.R k45 45 wc w.heap.size (fun k_ => some k_ ≠ ((.slice Ao40 t238.length co40) : Value).ownBlock ∧ some k_ ≠ ((.slice Ao46 t243.length co46) : Value).ownBlock) (.slice Ao57 t251.length co57) t251) ∧ Aside0 (wc.heap[gb227]? = some (.cells #[(.slice A0_0 l0_0.length c0_0)] 24 (0,0))) ∧ Aside0 (wc.heap[gb228]? = some (.cells #[.int .i64 a1_0,.string a1_1,.string a1_2,.string a1_3] 52 (0,0))) ∧ Aside0 (wc.heap[gb242]? = some (.cells #[(.slice Ao40 t238.length co40)] 30 (0,0))) ∧ Aside0 (wc.heap[gb246]? = some (.cells #[(.slice Ao46 t243.length co46)] 30 (0,0))) ∧ Aside0 (wc.heap[gb255]? = some (.cells #[(.slice Ao57 t251.length co57)] 30 (0,0))) ∧ Aside0 (Below w.heap.size w wc))
   case first =>
    have H:=HC25.out
    clear HC25
    replace H:=Option.bind_eq_some_iff.mp H
    obtain ⟨t256,A590,H⟩:=H
    replace H : (if t256 = true then (laws_FnExactDoAct.j0 k t241 t254 (t254 != t241) l0_0 a1_0 a1_1 a1_2 a1_3 t238 t243 t251) else (laws_FnExactDoAct.j0 k t241 t254 true l0_0 a1_0 a1_1 a1_2 a1_3 t238 t243 t251)) = some r:=H
    have A59:=Aside0.mk A590
    clear A590
    by_cases c60 : t256 = true
    ·subst c60
     have H1 : (laws_FnExactDoAct.j0 k t241 t254 (t254 != t241) l0_0 a1_0 a1_1 a1_2 a1_3 t238 t243 t251) = some r:=by rw [if_pos rfl] at H;exact H
     clear H
     have H:=H1
     clear H1
     have H':=Aside0.mk H
     clear H
     have hnb61:=NB255_227.out
     have hnc61:=NB227_255.out
     have hnb62:=NB255_228.out
     have hnc62:=NB228_255.out
     have hnb63:=NB255_242.out
     have hnc63:=NB242_255.out
     have hnb64:=NB255_246.out
     have hnc64:=NB246_255.out
     have hcz65_0 : w56.cell? ⟨gb255,0,none⟩ = some (.slice none 0 0):=(blk_cell BK255.out 0).trans rfl
     have hfz65_0:=blk_frozen BK255.out 0
     have hnb66:=NB242_227.out
     have hnc66:=NB227_242.out
     have hnb67:=NB242_228.out
     have hnc67:=NB228_242.out
     have hnb68:=NB242_246.out
     have hnc68:=NB246_242.out
     have hcz69_0 : w56.cell? ⟨gb242,0,none⟩ = some (.slice Ao40 t238.length co40):=(blk_cell BK242.out 0).trans rfl
     have hfz69_0:=blk_frozen BK242.out 0
     go_wp2_with (first | ((with_reducible refine gate_callee (f:=18) rfl ?_);refine goesL_ (some 45) rfl rfl Try.func18 (by kernel_rfl) rfl #[.agg #[.slice Ao57 t251.length co57],.agg #[.slice Ao40 t238.length co40]] rfl zM0 ?_;(with_reducible refine (laws_eqDisk.calls k _ _ t251 _ _ t238 true _ ?side1 ?side2 ?side3 ?side4 A59.out).mono ?_);(case side1 => refine (Kd.R_reads' (e:=45) (base:=w.heap.size) (ok:=fun k_ => (some k_ ≠ (v232 : Value).ownBlock ∧ (some k_ ≠ (.slice Ao40 t238.length co40 : Value).ownBlock ∧ some k_ ≠ (.slice Ao46 t243.length co46 : Value).ownBlock))) (n:=t251.length) (c:=co57) ?_).2.2;exact (by (with_reducible repeat (first | apply Kd.R_alloc | apply Kd.R_drewN | apply Kd.R_drew));exact (Kd.R_mono (Kd.R_far (p:=⟨gb255,0,none⟩) (Kd.R_types HO253.out BK255.out (by decide)) (fun _ hk => hk.2) (.slice Ao57 t251.length co57)) (fun _ h_ => h_.1))));(case side2 => exact (Kd.R_reads' HO253.out).2.1);(case side3 => refine (Kd.R_reads' (e:=45) (base:=w.heap.size) (ok:=fun k_ => (some k_ ≠ (v232 : Value).ownBlock ∧ (some k_ ≠ (.slice Ao46 t243.length co46 : Value).ownBlock ∧ some k_ ≠ (.slice Ao57 t251.length co57 : Value).ownBlock))) (n:=t238.length) (c:=co40) ?_).2.2;exact (by (with_reducible repeat (first | apply Kd.R_alloc | apply Kd.R_drewN | apply Kd.R_drew));exact (Kd.R_mono (Kd.R_far (p:=⟨gb255,0,none⟩) (Kd.R_types HO240.out BK255.out (by decide)) (fun _ hk => hk.2) (.slice Ao57 t251.length co57)) (fun _ h_ => h_.1))));(case side4 => exact (Kd.R_reads' HO240.out).2.1);rintro e w70 ⟨rfl,hb⟩;refine ⟨_,rfl,?_⟩;have n0_:=Aside0.mk (Kd.R_below (by (with_reducible repeat (first | apply Kd.R_alloc | apply Kd.R_drewN | apply Kd.R_drew));exact (Kd.R_mono (Kd.R_far (p:=⟨gb255,0,none⟩) (Kd.R_types HO233.out BK255.out (by decide)) (fun _ hk => hk.2) (.slice Ao57 t251.length co57)) (fun _ h_ => h_.1))) hb);have n1_:=Aside0.mk (Kd.R_below (by (with_reducible repeat (first | apply Kd.R_alloc | apply Kd.R_drewN | apply Kd.R_drew));exact (Kd.R_mono (Kd.R_far (p:=⟨gb255,0,none⟩) (Kd.R_types HO240.out BK255.out (by decide)) (fun _ hk => hk.2) (.slice Ao57 t251.length co57)) (fun _ h_ => h_.1))) hb);have n2_:=Aside0.mk (Kd.R_below (by (with_reducible repeat (first | apply Kd.R_alloc | apply Kd.R_drewN | apply Kd.R_drew));exact (Kd.R_mono (Kd.R_far (p:=⟨gb255,0,none⟩) (Kd.R_types HO245.out BK255.out (by decide)) (fun _ hk => hk.2) (.slice Ao57 t251.length co57)) (fun _ h_ => h_.1))) hb);have n3_:=Aside0.mk (Kd.R_below (by (with_reducible repeat (first | apply Kd.R_alloc | apply Kd.R_drewN | apply Kd.R_drew));exact (Kd.R_mono (Kd.R_far (p:=⟨gb255,0,none⟩) (Kd.R_types HO253.out BK255.out (by decide)) (fun _ hk => hk.2) (.slice Ao57 t251.length co57)) (fun _ h_ => h_.1))) hb);have n4_:=Aside0.mk (blk_below (g:=gb227) (o:=.cells #[.slice A0_0 l0_0.length c0_0] 24 (0,0)) (by (with_reducible repeat (first | refine blk_drewN ?_ _ | refine blk_drew ?_ | refine blk_alloc ?_ _));refine blk_far ?_ NB227_255.out _;(with_reducible repeat (first | refine blk_drewN ?_ _ | refine blk_drew ?_ | refine blk_alloc ?_ _));exact BK227.out) hb);have n5_:=Aside0.mk (blk_below (g:=gb228) (o:=.cells #[.int .i64 a1_0,.string a1_1,.string a1_2,.string a1_3] 52 (0,0)) (by (with_reducible repeat (first | refine blk_drewN ?_ _ | refine blk_drew ?_ | refine blk_alloc ?_ _));refine blk_far ?_ NB228_255.out _;(with_reducible repeat (first | refine blk_drewN ?_ _ | refine blk_drew ?_ | refine blk_alloc ?_ _));exact BK228.out) hb);have n6_:=Aside0.mk (blk_below (g:=gb242) (o:=.cells #[.slice Ao40 t238.length co40] 30 (0,0)) (by (with_reducible repeat (first | refine blk_drewN ?_ _ | refine blk_drew ?_ | refine blk_alloc ?_ _));refine blk_far ?_ NB242_255.out _;(with_reducible repeat (first | refine blk_drewN ?_ _ | refine blk_drew ?_ | refine blk_alloc ?_ _));exact BK242.out) hb);have n7_:=Aside0.mk (blk_below (g:=gb246) (o:=.cells #[.slice Ao46 t243.length co46] 30 (0,0)) (by (with_reducible repeat (first | refine blk_drewN ?_ _ | refine blk_drew ?_ | refine blk_alloc ?_ _));refine blk_far ?_ NB246_255.out _;(with_reducible repeat (first | refine blk_drewN ?_ _ | refine blk_drew ?_ | refine blk_alloc ?_ _));exact BK246.out) hb);have n8_:=Aside0.mk (blk_below (g:=gb255) (o:=.cells #[.slice Ao57 t251.length co57] 30 (0,0)) (by (with_reducible repeat (first | refine blk_drewN ?_ _ | refine blk_drew ?_ | refine blk_alloc ?_ _));refine blk_put (cs:=#[.slice none 0 0]) ?_ 0 _ rfl;(with_reducible repeat (first | refine blk_drewN ?_ _ | refine blk_drew ?_ | refine blk_alloc ?_ _));exact BK255.out) hb);have n9_:=Aside0.mk (zS0 HB.out hb);clear HO233;clear HO240;clear HO245;clear HO253;clear BK227;clear BK228;clear BK242;clear BK246;clear BK255;clear HB;have HO233:=n0_;have HO240:=n1_;have HO245:=n2_;have HO253:=n3_;have BK227:=n4_;have BK228:=n5_;have BK242:=n6_;have BK246:=n7_;have BK255:=n8_;have HB:=n9_;clear n0_ n1_ n2_ n3_ n4_ n5_ n6_ n7_ n8_ n9_;(try clear hb);(try clear hb2);(try clear hk);(try clear hi)))
     go_meet
     case rel => exact ⟨_,((t254 != t241)),(by first | rfl | (simp;done) | (simp [*];done)),H',⟨by first | omega | exact Nat.le_refl _⟩,⟨by (with_reducible repeat (first | apply Kd.R_alloc | apply Kd.R_drewN | apply Kd.R_drew));exact Kd.R_mono HO240.out (fun _ hk => ⟨hk.2.1,hk.2.2⟩)⟩,⟨by (with_reducible repeat (first | apply Kd.R_alloc | apply Kd.R_drewN | apply Kd.R_drew));exact Kd.R_mono HO245.out (fun _ hk => ⟨hk.2.1,hk.2.2⟩)⟩,⟨by (with_reducible repeat (first | apply Kd.R_alloc | apply Kd.R_drewN | apply Kd.R_drew));exact Kd.R_mono HO253.out (fun _ hk => ⟨hk.2.1,hk.2.2⟩)⟩,⟨by (with_reducible repeat (first | refine blk_drewN ?_ _ | refine blk_drew ?_ | refine blk_alloc ?_ _));exact BK227.out⟩,⟨by (with_reducible repeat (first | refine blk_drewN ?_ _ | refine blk_drew ?_ | refine blk_alloc ?_ _));exact BK228.out⟩,⟨by (with_reducible repeat (first | refine blk_drewN ?_ _ | refine blk_drew ?_ | refine blk_alloc ?_ _));exact BK242.out⟩,⟨by (with_reducible repeat (first | refine blk_drewN ?_ _ | refine blk_drew ?_ | refine blk_alloc ?_ _));exact BK246.out⟩,⟨by (with_reducible repeat (first | refine blk_drewN ?_ _ | refine blk_drew ?_ | refine blk_alloc ?_ _));exact BK255.out⟩,⟨by repeat (first | (with_reducible first | exact HB.out | apply below_alloc | apply pw_below_drewN | apply below_drew1 | refine below_set ?_ GE227.out | refine below_set ?_ GE228.out | refine below_set ?_ GE242.out | refine below_set ?_ GE246.out | refine below_set ?_ GE255.out) | exact HB.out)⟩⟩
    ·replace c60:=Bool.eq_false_iff.mpr c60
     subst c60
     have H1 : (laws_FnExactDoAct.j0 k t241 t254 true l0_0 a1_0 a1_1 a1_2 a1_3 t238 t243 t251) = some r:=by rw [if_neg (show ¬ (false = true) by decide)] at H;exact H
     exact absurd (H1.trans (congrArg some hrt)) (by first | simp | (cases k <;> simp [laws_FnExactDoAct.j0,laws_FnExactDoAct.j1,laws_FnExactDoAct.j2]))
   case rest =>
    clear HC25
    try clear c1
    try clear p2
    try clear c3
    try clear c6
    try clear c7
    try clear c18
    try clear c37
    try clear c38
    try clear c60
    try clear c61
    try clear c62
    try clear c63
    try clear c64
    try clear c66
    try clear c67
    try clear c68
    try clear c71
    try clear c72
    try clear c73
    try clear c74
    try clear c76
    try clear c77
    try clear c78
    try clear hcz65_0
    try clear hcz69_0
    try clear hcz75_0
    try clear hcz79_0
    try clear hfz65_0
    try clear hfz69_0
    try clear hfz75_0
    try clear hfz79_0
    obtain ⟨kq,x51_24,rfl,HA,HJ24,HO_243000,HO_247000,HO_256000,BK227,BK228,BK242,BK246,BK255,HB⟩:=hcut
    cases kq with
    | zero => exact absurd HA.out (by simp [laws_FnExactDoAct.j0])
    | succ kj24 =>
     have H:=HA.out
     clear HA
     simp only [laws_FnExactDoAct.j0] at H
     by_cases c81 : x51_24 = true
     ·subst c81
      have H1 : (some false) = some r:=by rw [if_pos rfl] at H;exact H
      exact absurd (H1.trans (congrArg some hrt)) (by first | simp | (cases kj24 <;> simp [laws_FnExactDoAct.j0,laws_FnExactDoAct.j1,laws_FnExactDoAct.j2]) | (cases k <;> simp [laws_FnExactDoAct.j0,laws_FnExactDoAct.j1,laws_FnExactDoAct.j2]))
     ·replace c81:=Bool.eq_false_iff.mpr c81
      subst c81
      have H1 : ((laws_toDisk.f kj24 l0_0).bind fun t257 => ((laws_eqDisk.f kj24 t243 t257).bind fun t260 => (if t260 = true then ((laws_markDisk.f kj24 t243 1).bind fun bt261 => (if bt261.1 < 0 then (laws_FnExactDoAct.j1 kj24 t241 true l0_0 a1_0 a1_1 a1_2 a1_3 t238 t251) else ((laws_eqDisk.f kj24 t251 t238).bind fun t263 => (if t263 = true then (laws_FnExactDoAct.j1 kj24 t241 (t254 != t241) l0_0 a1_0 a1_1 a1_2 a1_3 t238 t251) else (laws_FnExactDoAct.j1 kj24 t241 true l0_0 a1_0 a1_1 a1_2 a1_3 t238 t251))))) else (some false)))) = some r:=by rw [if_neg (show ¬ (false = true) by decide)] at H;exact H
      clear H
      have H:=H1
      clear H1
      replace H:=Option.bind_eq_some_iff.mp H
      obtain ⟨t257,A820,H⟩:=H
      replace H : ((laws_eqDisk.f kj24 t243 t257).bind fun t260 => (if t260 = true then ((laws_markDisk.f kj24 t243 1).bind fun bt261 => (if bt261.1 < 0 then (laws_FnExactDoAct.j1 kj24 t241 true l0_0 a1_0 a1_1 a1_2 a1_3 t238 t251) else ((laws_eqDisk.f kj24 t251 t238).bind fun t263 => (if t263 = true then (laws_FnExactDoAct.j1 kj24 t241 (t254 != t241) l0_0 a1_0 a1_1 a1_2 a1_3 t238 t251) else (laws_FnExactDoAct.j1 kj24 t241 true l0_0 a1_0 a1_1 a1_2 a1_3 t238 t251))))) else (some false))) = some r:=H
      have A82:=Aside0.mk A820
      clear A820
      replace H:=Option.bind_eq_some_iff.mp H
      obtain ⟨t260,A830,H⟩:=H
      replace H : (if t260 = true then ((laws_markDisk.f kj24 t243 1).bind fun bt261 => (if bt261.1 < 0 then (laws_FnExactDoAct.j1 kj24 t241 true l0_0 a1_0 a1_1 a1_2 a1_3 t238 t251) else ((laws_eqDisk.f kj24 t251 t238).bind fun t263 => (if t263 = true then (laws_FnExactDoAct.j1 kj24 t241 (t254 != t241) l0_0 a1_0 a1_1 a1_2 a1_3 t238 t251) else (laws_FnExactDoAct.j1 kj24 t241 true l0_0 a1_0 a1_1 a1_2 a1_3 t238 t251))))) else (some false)) = some r:=H
      have A83:=Aside0.mk A830
      clear A830
      by_cases c84 : t260 = true
      ·subst c84
       have H1 : ((laws_markDisk.f kj24 t243 1).bind fun bt261 => (if bt261.1 < 0 then (laws_FnExactDoAct.j1 kj24 t241 true l0_0 a1_0 a1_1 a1_2 a1_3 t238 t251) else ((laws_eqDisk.f kj24 t251 t238).bind fun t263 => (if t263 = true then (laws_FnExactDoAct.j1 kj24 t241 (t254 != t241) l0_0 a1_0 a1_1 a1_2 a1_3 t238 t251) else (laws_FnExactDoAct.j1 kj24 t241 true l0_0 a1_0 a1_1 a1_2 a1_3 t238 t251))))) = some r:=by rw [if_pos rfl] at H;exact H
       clear H
       have H:=H1
       clear H1
       replace H:=Option.bind_eq_some_iff.mp H
       obtain ⟨⟨t261,t262⟩,A850,H⟩:=H
       replace H : (if t261 < 0 then (laws_FnExactDoAct.j1 kj24 t241 true l0_0 a1_0 a1_1 a1_2 a1_3 t238 t251) else ((laws_eqDisk.f kj24 t251 t238).bind fun t263 => (if t263 = true then (laws_FnExactDoAct.j1 kj24 t241 (t254 != t241) l0_0 a1_0 a1_1 a1_2 a1_3 t238 t251) else (laws_FnExactDoAct.j1 kj24 t241 true l0_0 a1_0 a1_1 a1_2 a1_3 t238 t251)))) = some r:=H
       have A85:=Aside0.mk A850
       clear A850
       have HC86:=Aside0.mk H
       clear H
       try go_wp2
       have n0_:=Aside0.mk (Kd.R_drew HO_243000.out)
       have n1_:=Aside0.mk (Kd.R_drew HO_247000.out)
       have n2_:=Aside0.mk (Kd.R_drew HO_256000.out)
       have n3_:=Aside0.mk (blk_drew BK227.out)
       have n4_:=Aside0.mk (blk_drew BK228.out)
       have n5_:=Aside0.mk (blk_drew BK242.out)
       have n6_:=Aside0.mk (blk_drew BK246.out)
       have n7_:=Aside0.mk (blk_drew BK255.out)
       have n8_:=Aside0.mk (below_drew1 HB.out)
       clear HO_243000
       clear HO_247000
       clear HO_256000
       clear BK227
       clear BK228
       clear BK242
       clear BK246
       clear BK255
       clear HB
       have HO_243000:=n0_
       have HO_247000:=n1_
       have HO_256000:=n2_
       have BK227:=n3_
       have BK228:=n4_
       have BK242:=n5_
       have BK246:=n6_
       have BK255:=n7_
       have HB:=n8_
       clear n0_ n1_ n2_ n3_ n4_ n5_ n6_ n7_ n8_
       refine start_ (n:=5) (S:=fun w' => w'.cell? ⟨gb246,0,none⟩ = some (.slice Ao46 t243.length co46) ∧ w'.cell? ⟨gb227,0,none⟩ = some (.slice A0_0 l0_0.length c0_0)) (ds:=[]) (zF0 5 0) (by kernel_rfl) rfl rfl ⟨(blk_cell BK246.out 0).trans rfl,(blk_cell BK227.out 0).trans rfl⟩ (fun hHeld => ?_)
       generalize wc.drew = w87 at HO_243000 HO_247000 HO_256000 BK227 BK228 BK242 BK246 BK255 HB hHeld ⊢
       refine take_ (i:=0) (N:=some 52) (v:=?_) (a':=?_) (zF0 5 1) rfl rfl (by kernel_rfl) (fun _ _ _ h => h) (Or.inl ⟨by rfl,?_⟩) hHeld ?_ ?_;rotate_left
       ·rintro w' ⟨s0,s1⟩
        go_simp
        with_reducible rfl
       rotate_left
       ·simp only [Act.put,qA0,qB0,qC0,i64_w,i32_w];rfl
       refine take_ (i:=1) (N:=some 53) (v:=?_) (a':=?_) (zF0 5 3) rfl rfl (by kernel_rfl) (fun _ _ _ h => h) (Or.inl ⟨by rfl,?_⟩) hHeld ?_ ?_;rotate_left
       ·rintro w' ⟨s0,s1⟩
        go_simp
        with_reducible rfl
       rotate_left
       ·simp only [Act.put,qA0,qB0,qC0,i64_w,i32_w];rfl
       refine one_ (i:=2) (N:=some 54) (zF0 5 7) rfl rfl (by kernel_rfl) (by decide) (fun K hK => ?_)
       refine goes_ Try.func16 (by kernel_rfl) rfl #[.agg #[.slice A0_0 l0_0.length c0_0]] (by rfl) rfl rfl zM0 ?_
       with_reducible refine (laws_toDisk.calls kj24 _ _ l0_0 t257 _ ?side1 ?side2 A82.out).mono ?_
       (case side1 => repeat (first | exact (Kd.C_below HR0_0.out HB.out) | (with_reducible refine Kd.C_alloc ?_ _) | (with_reducible refine Kd.C_drewN ?_ _) | (with_reducible refine Kd.C_drew ?_)))
       (case side2 => exact HC0_0.out)
       rintro e w88 ⟨v258,rfl,ho0,hb⟩
       refine ⟨_,rfl,?_⟩
       have n0_:=Aside0.mk (Kd.R_elder' (zR0 HO_243000.out) (Kd.R_base ho0) hb)
       have n1_:=Aside0.mk (Kd.R_elder' (zR0 HO_247000.out) (Kd.R_base ho0) hb)
       have n2_:=Aside0.mk (Kd.R_elder' (zR0 HO_256000.out) (Kd.R_base ho0) hb)
       have n3_:=Aside0.mk (Kd.R_lower (Kd.R_new' (Kd.R_new' (Kd.R_new' ho0 (Kd.R_lt (zR0 HO_243000.out))) (Kd.R_lt (zR0 HO_247000.out))) (Kd.R_lt (zR0 HO_256000.out))) (zZ0 HB.out))
       have n4_:=Aside0.mk (zB0 BK227.out hb)
       have n5_:=Aside0.mk (zB0 BK228.out hb)
       have n6_:=Aside0.mk (zB0 BK242.out hb)
       have n7_:=Aside0.mk (zB0 BK246.out hb)
       have n8_:=Aside0.mk (zB0 BK255.out hb)
       have n9_:=Aside0.mk (zS0 HB.out hb)
       clear HO_243000
       clear HO_247000
       clear HO_256000
       clear BK227
       clear BK228
       clear BK242
       clear BK246
       clear BK255
       clear HB
       have HO_243000:=n0_
       have HO_247000:=n1_
       have HO_256000:=n2_
       have HO259:=n3_
       have BK227:=n4_
       have BK228:=n5_
       have BK242:=n6_
       have BK246:=n7_
       have BK255:=n8_
       have HB:=n9_
       clear n0_ n1_ n2_ n3_ n4_ n5_ n6_ n7_ n8_ n9_
       (try clear hb)
       (try clear hb2)
       (try clear hk)
       (try clear hi)
       (try clear ho0)
       obtain ⟨Ao89,co89,eo89⟩:=Kd.R_slice HO259.out
       (first | subst eo89 | (injection eo89 with f1_ f2_ f3_;have f4_:=f1_.symm;have f5_:=f3_.symm;clear f1_ f2_ f3_;subst f4_;subst f5_))
       refine hK.out _ _ ⟨(blk_cell BK246.out 0).trans rfl,(blk_cell BK227.out 0).trans rfl⟩ (fun hHeld => ?_)
       clear hK K
       refine norm_ (a':=?_) ?_ ?_;rotate_left
       ·show Act.put _ (some 54) _ = _;simp only [Act.put,qA0,qB0,qC0,i64_w,i32_w];rfl
       refine one_ (i:=3) (N:=some 55) (zF0 5 15) rfl rfl (by kernel_rfl) (by decide) (fun K hK => ?_)
       refine goes_ Try.func18 (by kernel_rfl) rfl #[.agg #[.slice Ao46 t243.length co46],.agg #[.slice Ao89 t257.length co89]] (by rfl) rfl rfl zM0 ?_
       with_reducible refine (laws_eqDisk.calls kj24 _ _ t243 _ _ t257 true _ ?side1 ?side2 ?side3 ?side4 A83.out).mono ?_
       (case side1 => repeat (first | exact (Kd.R_reads' HO_247000.out).2.2 | (with_reducible refine Kd.C_alloc ?_ _) | (with_reducible refine Kd.C_drewN ?_ _) | (with_reducible refine Kd.C_drew ?_)))
       (case side2 => exact (Kd.R_reads' HO_247000.out).2.1)
       (case side3 => repeat (first | exact (Kd.R_reads' HO259.out).2.2 | (with_reducible refine Kd.C_alloc ?_ _) | (with_reducible refine Kd.C_drewN ?_ _) | (with_reducible refine Kd.C_drew ?_)))
       (case side4 => exact (Kd.R_reads' HO259.out).2.1)
       rintro e w90 ⟨rfl,hb⟩
       refine ⟨_,rfl,?_⟩
       have n0_:=Aside0.mk (Kd.R_below (zR0 HO_243000.out) hb)
       have n1_:=Aside0.mk (Kd.R_below (zR0 HO_247000.out) hb)
       have n2_:=Aside0.mk (Kd.R_below (zR0 HO_256000.out) hb)
       have n3_:=Aside0.mk (Kd.R_below (zR0 HO259.out) hb)
       have n4_:=Aside0.mk (zB0 BK227.out hb)
       have n5_:=Aside0.mk (zB0 BK228.out hb)
       have n6_:=Aside0.mk (zB0 BK242.out hb)
       have n7_:=Aside0.mk (zB0 BK246.out hb)
       have n8_:=Aside0.mk (zB0 BK255.out hb)
       have n9_:=Aside0.mk (zS0 HB.out hb)
       clear HO_243000
       clear HO_247000
       clear HO_256000
       clear HO259
       clear BK227
       clear BK228
       clear BK242
       clear BK246
       clear BK255
       clear HB
       have HO_243000:=n0_
       have HO_247000:=n1_
       have HO_256000:=n2_
       have HO259:=n3_
       have BK227:=n4_
       have BK228:=n5_
       have BK242:=n6_
       have BK246:=n7_
       have BK255:=n8_
       have HB:=n9_
       clear n0_ n1_ n2_ n3_ n4_ n5_ n6_ n7_ n8_ n9_
       (try clear hb)
       (try clear hb2)
       (try clear hk)
       (try clear hi)
       refine hK.out _ _ ⟨(blk_cell BK246.out 0).trans rfl,(blk_cell BK227.out 0).trans rfl⟩ (fun hHeld => ?_)
       clear hK K
       refine norm_ (a':=?_) ?_ ?_;rotate_left
       ·show Act.put _ (some 55) _ = _;simp only [Act.put,qA0,qB0,qC0,i64_w,i32_w];rfl
       refine pure_ (i:=4) (N:=some 56) (v:=?_) (a':=?_) (zF0 5 31) rfl rfl (by kernel_rfl) (fun _ _ _ h => h) (Or.inl ⟨by rfl,?_⟩) ?_ ?_;rotate_left
       ·intro w';go_simp;with_reducible rfl
       rotate_left
       ·simp only [Act.put,qA0,qB0,qC0,i64_w,i32_w];rfl
       refine done_ (by kernel_rfl) ?_
       have hnb91:=NB246_227.out
       have hnc91:=NB227_246.out
       have hnb92:=NB246_228.out
       have hnc92:=NB228_246.out
       have hnb93:=NB246_242.out
       have hnc93:=NB242_246.out
       have hnb94:=NB246_255.out
       have hnc94:=NB255_246.out
       have hcz95_0 : w90.cell? ⟨gb246,0,none⟩ = some (.slice Ao46 t243.length co46):=(blk_cell BK246.out 0).trans rfl
       have hfz95_0:=blk_frozen BK246.out 0
       go_upto_region 17 with (first | ((with_reducible refine gate_callee (f:=32) rfl ?_);refine goesL_ (some 59) rfl rfl Try.func32 (by kernel_rfl) rfl #[.agg #[.slice Ao46 t243.length co46],.int .i64 1] rfl zM0 ?_;(with_reducible refine (laws_markDisk.calls kj24 (fun k_ => some k_ = (.slice Ao46 t243.length co46 : Value).ownBlock) (.slice Ao46 t243.length co46) t243 1 t261 t262 w _ ?side1 ?side2 A85.out).mono ?_);(case side1 => repeat (first | (with_reducible first | exact HB.out | apply below_alloc | apply pw_below_drewN | apply below_drew1 | refine below_set ?_ GE227.out | refine below_set ?_ GE228.out | refine below_set ?_ GE242.out | refine below_set ?_ GE246.out | refine below_set ?_ GE255.out) | exact HB.out));(case side2 => exact Kd.R_tight rfl HO_247000.out);rintro e w96 ⟨rfl,hy0,hb,hkp⟩;refine ⟨_,rfl,?_⟩;have n0_:=Aside0.mk (Kd.R_mono (ok':=fun k_ => some k_ ≠ (.slice Ao46 t243.length co46 : Value).ownBlock ∧ some k_ ≠ (.slice Ao57 t251.length co57 : Value).ownBlock ∧ some k_ ≠ (.slice Ao89 t257.length co89 : Value).ownBlock) (Kd.R_keptB (HO_243000.out) hkp (fun k_ hk_ hs_ => (hk_.1.1) hs_)) (fun k_ hk_ => ⟨hk_.1.1.1,hk_.1.1.2,hk_.1.2⟩));have n1_:=Aside0.mk (Kd.R_reok rfl hy0 (fun k_ e_ => HO_247000.out.1 k_ e_));have n2_:=Aside0.mk (Kd.R_mono (ok':=fun k_ => some k_ ≠ (.slice Ao40 t238.length co40 : Value).ownBlock ∧ some k_ ≠ (.slice Ao46 t243.length co46 : Value).ownBlock ∧ some k_ ≠ (.slice Ao89 t257.length co89 : Value).ownBlock) (Kd.R_keptB (HO_256000.out) hkp (fun k_ hk_ hs_ => (hk_.1.2) hs_)) (fun k_ hk_ => ⟨hk_.1.1.1,hk_.1.1.2,hk_.1.2⟩));have n3_:=Aside0.mk (blk_kept (zK0 BK227.out) hkp (fun hs_ => (fun e_ => (Kd.R_ne HO_247000.out BK227.out (by decide)) e_) hs_));have n4_:=Aside0.mk (blk_kept (zK0 BK228.out) hkp (fun hs_ => (fun e_ => (Kd.R_ne HO_247000.out BK228.out (by decide)) e_) hs_));have n5_:=Aside0.mk (blk_kept (zK0 BK242.out) hkp (fun hs_ => (fun e_ => (Kd.R_ne HO_247000.out BK242.out (by decide)) e_) hs_));have n6_:=Aside0.mk (blk_kept (zK0 BK246.out) hkp (fun hs_ => (fun e_ => (Kd.R_ne HO_247000.out BK246.out (by decide)) e_) hs_));have n7_:=Aside0.mk (blk_kept (zK0 BK255.out) hkp (fun hs_ => (fun e_ => (Kd.R_ne HO_247000.out BK255.out (by decide)) e_) hs_));have n8_:=Aside0.mk (Kd.R_mono (ok':=fun k_ => some k_ ≠ (.slice Ao40 t238.length co40 : Value).ownBlock ∧ some k_ ≠ (.slice Ao46 t243.length co46 : Value).ownBlock ∧ some k_ ≠ (.slice Ao57 t251.length co57 : Value).ownBlock) (Kd.R_keptB (HO259.out) hkp (fun k_ hk_ hs_ => (hk_.1.2) hs_)) (fun k_ hk_ => ⟨hk_.1.1.1.2,hk_.1.1.2,hk_.1.2⟩));have n9_:=Aside0.mk (hb);clear HO_243000;clear HO_247000;clear HO_256000;clear BK227;clear BK228;clear BK242;clear BK246;clear BK255;clear HO259;clear HB;have HO_243000:=n0_;have HO_247000:=n1_;have HO_256000:=n2_;have BK227:=n3_;have BK228:=n4_;have BK242:=n5_;have BK246:=n6_;have BK255:=n7_;have HO259:=n8_;have HB:=n9_;clear n0_ n1_ n2_ n3_ n4_ n5_ n6_ n7_ n8_ n9_;(try clear hb);(try clear hkp);(try clear hy0)))
       (try simp only [Act.put,qA0,qB0,qC0])
       go_cut [72] (fun v72 wc => ∃ (kq : Nat) (x72_85 : Bool),v72 = .bool x72_85 ∧ Aside0 (laws_FnExactDoAct.j1 kq t241 x72_85 l0_0 a1_0 a1_1 a1_2 a1_3 t238 t251 = some r) ∧ Aside0 (kq ≤ kj24) ∧ Aside0 (Kd.R k45 45 wc w.heap.size (fun k_ => some k_ ≠ ((.slice Ao46 t243.length co46) : Value).ownBlock ∧ some k_ ≠ ((.slice Ao57 t251.length co57) : Value).ownBlock) (.slice Ao40 t238.length co40) t238) ∧ Aside0 (Kd.R k45 45 wc w.heap.size (fun k_ => some k_ ≠ ((.slice Ao40 t238.length co40) : Value).ownBlock ∧ some k_ ≠ ((.slice Ao57 t251.length co57) : Value).ownBlock) (.slice Ao46 t243.length co46) t262) ∧ Aside0 (Kd.R k45 45 wc w.heap.size (fun k_ => some k_ ≠ ((.slice Ao40 t238.length co40) : Value).ownBlock ∧ some k_ ≠ ((.slice Ao46 t243.length co46) : Value).ownBlock) (.slice Ao57 t251.length co57) t251) ∧ Aside0 (wc.heap[gb227]? = some (.cells #[(.slice A0_0 l0_0.length c0_0)] 24 (0,0))) ∧ Aside0 (wc.heap[gb228]? = some (.cells #[.int .i64 a1_0,.string a1_1,.string a1_2,.string a1_3] 52 (0,0))) ∧ Aside0 (wc.heap[gb242]? = some (.cells #[(.slice Ao40 t238.length co40)] 30 (0,0))) ∧ Aside0 (wc.heap[gb246]? = some (.cells #[(.slice Ao46 t243.length co46)] 30 (0,0))) ∧ Aside0 (wc.heap[gb255]? = some (.cells #[(.slice Ao57 t251.length co57)] 30 (0,0))) ∧ Aside0 (Below w.heap.size w wc))
       case first =>
        have H:=HC86.out
        clear HC86
        by_cases c97 : t261 < 0
        ·rw [if_pos c97] at H
         exact absurd (H.trans (congrArg some hrt)) (by first | simp | (cases kj24 <;> simp [laws_FnExactDoAct.j0,laws_FnExactDoAct.j1,laws_FnExactDoAct.j2]) | (cases k <;> simp [laws_FnExactDoAct.j0,laws_FnExactDoAct.j1,laws_FnExactDoAct.j2]))
        ·rw [if_neg c97] at H
         have c97b0 : decide (t261 < 0) = false:=decide_eq_false c97
         clear c97
         (first | rw [c97b0] | (simp only [i64_w,i32_w];rw [c97b0]) | skip)
         replace H:=Option.bind_eq_some_iff.mp H
         obtain ⟨t263,A980,H⟩:=H
         replace H : (if t263 = true then (laws_FnExactDoAct.j1 kj24 t241 (t254 != t241) l0_0 a1_0 a1_1 a1_2 a1_3 t238 t251) else (laws_FnExactDoAct.j1 kj24 t241 true l0_0 a1_0 a1_1 a1_2 a1_3 t238 t251)) = some r:=H
         have A98:=Aside0.mk A980
         clear A980
         by_cases c99 : t263 = true
         ·subst c99
          have H1 : (laws_FnExactDoAct.j1 kj24 t241 (t254 != t241) l0_0 a1_0 a1_1 a1_2 a1_3 t238 t251) = some r:=by rw [if_pos rfl] at H;exact H
          clear H
          have H:=H1
          clear H1
          have H':=Aside0.mk H
          clear H
          have hnb100:=NB255_227.out
          have hnc100:=NB227_255.out
          have hnb101:=NB255_228.out
          have hnc101:=NB228_255.out
          have hnb102:=NB255_242.out
          have hnc102:=NB242_255.out
          have hnb103:=NB255_246.out
          have hnc103:=NB246_255.out
          have hcz104_0 : w96.cell? ⟨gb255,0,none⟩ = some (.slice Ao57 t251.length co57):=(blk_cell BK255.out 0).trans rfl
          have hfz104_0:=blk_frozen BK255.out 0
          have hnb105:=NB242_227.out
          have hnc105:=NB227_242.out
          have hnb106:=NB242_228.out
          have hnc106:=NB228_242.out
          have hnb107:=NB242_246.out
          have hnc107:=NB246_242.out
          have hcz108_0 : w96.cell? ⟨gb242,0,none⟩ = some (.slice Ao40 t238.length co40):=(blk_cell BK242.out 0).trans rfl
          have hfz108_0:=blk_frozen BK242.out 0
          go_wp2_with (first | (go_at_call 18;(with_reducible refine (laws_eqDisk.calls kj24 _ _ t251 _ _ t238 true _ ?side1 ?side2 ?side3 ?side4 A98.out).mono ?_);(case side1 => repeat (first | exact (Kd.R_reads' HO_256000.out).2.2 | (with_reducible refine Kd.C_alloc ?_ _) | (with_reducible refine Kd.C_drewN ?_ _) | (with_reducible refine Kd.C_drew ?_)));(case side2 => exact (Kd.R_reads' HO_256000.out).2.1);(case side3 => repeat (first | exact (Kd.R_reads' HO_243000.out).2.2 | (with_reducible refine Kd.C_alloc ?_ _) | (with_reducible refine Kd.C_drewN ?_ _) | (with_reducible refine Kd.C_drew ?_)));(case side4 => exact (Kd.R_reads' HO_243000.out).2.1);rintro e w109 ⟨rfl,hb⟩;have n0_:=Aside0.mk (Kd.R_below (zR0 HO_243000.out) hb);have n1_:=Aside0.mk (Kd.R_below (zR0 HO_247000.out) hb);have n2_:=Aside0.mk (Kd.R_below (zR0 HO_256000.out) hb);have n3_:=Aside0.mk (Kd.R_below (zR0 HO259.out) hb);have n4_:=Aside0.mk (zB0 BK227.out hb);have n5_:=Aside0.mk (zB0 BK228.out hb);have n6_:=Aside0.mk (zB0 BK242.out hb);have n7_:=Aside0.mk (zB0 BK246.out hb);have n8_:=Aside0.mk (zB0 BK255.out hb);have n9_:=Aside0.mk (zS0 HB.out hb);clear HO_243000;clear HO_247000;clear HO_256000;clear HO259;clear BK227;clear BK228;clear BK242;clear BK246;clear BK255;clear HB;have HO_243000:=n0_;have HO_247000:=n1_;have HO_256000:=n2_;have HO259:=n3_;have BK227:=n4_;have BK228:=n5_;have BK242:=n6_;have BK246:=n7_;have BK255:=n8_;have HB:=n9_;clear n0_ n1_ n2_ n3_ n4_ n5_ n6_ n7_ n8_ n9_;(try clear hb);(try clear hb2);(try clear hk);(try clear hi)))
          go_meet
          case rel => exact ⟨_,((t254 != t241)),(by first | rfl | (simp;done) | (simp [*];done)),H',⟨by have:=HJ24.out;first | omega | exact Nat.le_refl _⟩,⟨by (with_reducible repeat (first | apply Kd.R_alloc | apply Kd.R_drewN | apply Kd.R_drew));exact Kd.R_mono HO_243000.out (fun _ hk => ⟨hk.1,hk.2.1⟩)⟩,⟨by (with_reducible repeat (first | apply Kd.R_alloc | apply Kd.R_drewN | apply Kd.R_drew));exact Kd.R_mono HO_247000.out (fun _ hk => ⟨hk.1.1,hk.1.2⟩)⟩,⟨by (with_reducible repeat (first | apply Kd.R_alloc | apply Kd.R_drewN | apply Kd.R_drew));exact Kd.R_mono HO_256000.out (fun _ hk => ⟨hk.1,hk.2.1⟩)⟩,⟨by (with_reducible repeat (first | refine blk_drewN ?_ _ | refine blk_drew ?_ | refine blk_alloc ?_ _));exact BK227.out⟩,⟨by (with_reducible repeat (first | refine blk_drewN ?_ _ | refine blk_drew ?_ | refine blk_alloc ?_ _));exact BK228.out⟩,⟨by (with_reducible repeat (first | refine blk_drewN ?_ _ | refine blk_drew ?_ | refine blk_alloc ?_ _));exact BK242.out⟩,⟨by (with_reducible repeat (first | refine blk_drewN ?_ _ | refine blk_drew ?_ | refine blk_alloc ?_ _));exact BK246.out⟩,⟨by (with_reducible repeat (first | refine blk_drewN ?_ _ | refine blk_drew ?_ | refine blk_alloc ?_ _));exact BK255.out⟩,⟨by repeat (first | (with_reducible first | exact HB.out | apply below_alloc | apply pw_below_drewN | apply below_drew1 | refine below_set ?_ GE227.out | refine below_set ?_ GE228.out | refine below_set ?_ GE242.out | refine below_set ?_ GE246.out | refine below_set ?_ GE255.out) | exact HB.out)⟩⟩
         ·replace c99:=Bool.eq_false_iff.mpr c99
          subst c99
          have H1 : (laws_FnExactDoAct.j1 kj24 t241 true l0_0 a1_0 a1_1 a1_2 a1_3 t238 t251) = some r:=by rw [if_neg (show ¬ (false = true) by decide)] at H;exact H
          exact absurd (H1.trans (congrArg some hrt)) (by first | simp | (cases kj24 <;> simp [laws_FnExactDoAct.j0,laws_FnExactDoAct.j1,laws_FnExactDoAct.j2]) | (cases k <;> simp [laws_FnExactDoAct.j0,laws_FnExactDoAct.j1,laws_FnExactDoAct.j2]))
       case rest =>
        clear HC86
        try clear c1
        try clear p2
        try clear c3
        try clear c6
        try clear c7
        try clear c8
        try clear c9
        try clear c10
        try clear c11
        try clear c16
        try clear c18
        try clear c32
        try clear c37
        try clear c38
        try clear c60
        try clear c61
        try clear c62
        try clear c63
        try clear c64
        try clear c66
        try clear c67
        try clear c68
        try clear c71
        try clear c72
        try clear c73
        try clear c74
        try clear c76
        try clear c77
        try clear c78
        try clear c81
        try clear c84
        try clear c91
        try clear c92
        try clear c93
        try clear c94
        try clear c97
        try clear c97b0
        try clear c99
        try clear c100
        try clear c101
        try clear c102
        try clear c103
        try clear c105
        try clear c106
        try clear c107
        try clear c110
        try clear c111
        try clear c112
        try clear c113
        try clear c115
        try clear c116
        try clear c117
        try clear hcz104_0
        try clear hcz108_0
        try clear hcz114_0
        try clear hcz118_0
        try clear hcz65_0
        try clear hcz69_0
        try clear hcz75_0
        try clear hcz79_0
        try clear hcz95_0
        try clear hfz104_0
        try clear hfz108_0
        try clear hfz114_0
        try clear hfz118_0
        try clear hfz65_0
        try clear hfz69_0
        try clear hfz75_0
        try clear hfz79_0
        try clear hfz95_0
        try clear p2
        obtain ⟨kq,x72_85,rfl,HA,HJ85,HO_243000,HO_247000,HO_256000,BK227,BK228,BK242,BK246,BK255,HB⟩:=hcut
        have hl247000_85:=(Kd.R_reads' HO_247000.out).1
        rw [hl247000_85] at HO_247000
        (try simp only [hl247000_85])
        (try simp only [hl247000_85] at BK227)
        (try simp only [hl247000_85] at BK228)
        (try simp only [hl247000_85] at BK242)
        (try simp only [hl247000_85] at BK246)
        (try simp only [hl247000_85] at BK255)
        (try simp only [hl247000_85] at HO_243000)
        (try simp only [hl247000_85] at HO_256000)
        cases kq with
        | zero => exact absurd HA.out (by simp [laws_FnExactDoAct.j1])
        | succ kj85 =>
         have H:=HA.out
         clear HA
         simp only [laws_FnExactDoAct.j1] at H
         by_cases c120 : x72_85 = true
         ·subst c120
          have H1 : (some false) = some r:=by rw [if_pos rfl] at H;exact H
          exact absurd (H1.trans (congrArg some hrt)) (by first | simp | (cases kj85 <;> simp [laws_FnExactDoAct.j0,laws_FnExactDoAct.j1,laws_FnExactDoAct.j2]) | (cases kj24 <;> simp [laws_FnExactDoAct.j0,laws_FnExactDoAct.j1,laws_FnExactDoAct.j2]) | (cases k <;> simp [laws_FnExactDoAct.j0,laws_FnExactDoAct.j1,laws_FnExactDoAct.j2]))
         ·replace c120:=Bool.eq_false_iff.mpr c120
          subst c120
          have H1 : ((laws_markDisk.f kj85 t251 1).bind fun bt264 => ((laws_heldDisk.f kj85 bt264.2 1).bind fun t266 => (if t266 < 0 then (some false) else (if t266 = bt264.1 then ((laws_toDisk.f kj85 l0_0).bind fun t267 => ((laws_toAct.f a1_0 a1_1 a1_2 a1_3).bind fun bt270 => ((impl_DoAct.f kj85 t267 bt270.1 bt270.2.1 bt270.2.2.1 bt270.2.2.2).bind fun bt274 => ((laws_eqDisk.f kj85 bt274.1 t238).bind fun t279 => (if t279 = true then (laws_FnExactDoAct.j2 kj85 bt264.1 (bt274.2 != t241) bt264.2) else (laws_FnExactDoAct.j2 kj85 bt264.1 true bt264.2)))))) else (some false))))) = some r:=by rw [if_neg (show ¬ (false = true) by decide)] at H;exact H
          clear H
          have H:=H1
          clear H1
          replace H:=Option.bind_eq_some_iff.mp H
          obtain ⟨⟨t264,t265⟩,A1210,H⟩:=H
          replace H : ((laws_heldDisk.f kj85 t265 1).bind fun t266 => (if t266 < 0 then (some false) else (if t266 = t264 then ((laws_toDisk.f kj85 l0_0).bind fun t267 => ((laws_toAct.f a1_0 a1_1 a1_2 a1_3).bind fun bt270 => ((impl_DoAct.f kj85 t267 bt270.1 bt270.2.1 bt270.2.2.1 bt270.2.2.2).bind fun bt274 => ((laws_eqDisk.f kj85 bt274.1 t238).bind fun t279 => (if t279 = true then (laws_FnExactDoAct.j2 kj85 t264 (bt274.2 != t241) t265) else (laws_FnExactDoAct.j2 kj85 t264 true t265)))))) else (some false)))) = some r:=H
          have A121:=Aside0.mk A1210
          clear A1210
          replace H:=Option.bind_eq_some_iff.mp H
          obtain ⟨t266,A1220,H⟩:=H
          replace H : (if t266 < 0 then (some false) else (if t266 = t264 then ((laws_toDisk.f kj85 l0_0).bind fun t267 => ((laws_toAct.f a1_0 a1_1 a1_2 a1_3).bind fun bt270 => ((impl_DoAct.f kj85 t267 bt270.1 bt270.2.1 bt270.2.2.1 bt270.2.2.2).bind fun bt274 => ((laws_eqDisk.f kj85 bt274.1 t238).bind fun t279 => (if t279 = true then (laws_FnExactDoAct.j2 kj85 t264 (bt274.2 != t241) t265) else (laws_FnExactDoAct.j2 kj85 t264 true t265)))))) else (some false))) = some r:=H
          have A122:=Aside0.mk A1220
          clear A1220
          by_cases c123 : t266 < 0
          ·rw [if_pos c123] at H
           exact absurd (H.trans (congrArg some hrt)) (by first | simp | (cases kj85 <;> simp [laws_FnExactDoAct.j0,laws_FnExactDoAct.j1,laws_FnExactDoAct.j2]) | (cases kj24 <;> simp [laws_FnExactDoAct.j0,laws_FnExactDoAct.j1,laws_FnExactDoAct.j2]) | (cases k <;> simp [laws_FnExactDoAct.j0,laws_FnExactDoAct.j1,laws_FnExactDoAct.j2]))
          ·rw [if_neg c123] at H
           have c123b0 : decide (t266 < 0) = false:=decide_eq_false c123
           clear c123
           by_cases c132 : t266 = t264
           ·rw [if_pos c132] at H
            have c132b0 : (t266 == t264) = true:=beq_iff_eq.mpr c132
            have c132b1 : (t266 != t264) = false:=bne_eq_false_iff_eq.mpr c132
            clear c132
            replace H:=Option.bind_eq_some_iff.mp H
            obtain ⟨t267,A1330,H⟩:=H
            replace H : ((laws_toAct.f a1_0 a1_1 a1_2 a1_3).bind fun bt270 => ((impl_DoAct.f kj85 t267 bt270.1 bt270.2.1 bt270.2.2.1 bt270.2.2.2).bind fun bt274 => ((laws_eqDisk.f kj85 bt274.1 t238).bind fun t279 => (if t279 = true then (laws_FnExactDoAct.j2 kj85 t264 (bt274.2 != t241) t265) else (laws_FnExactDoAct.j2 kj85 t264 true t265))))) = some r:=H
            have A133:=Aside0.mk A1330
            clear A1330
            replace H:=Option.bind_eq_some_iff.mp H
            obtain ⟨⟨t270,t271,t272,t273⟩,A1340,H⟩:=H
            replace H : ((impl_DoAct.f kj85 t267 t270 t271 t272 t273).bind fun bt274 => ((laws_eqDisk.f kj85 bt274.1 t238).bind fun t279 => (if t279 = true then (laws_FnExactDoAct.j2 kj85 t264 (bt274.2 != t241) t265) else (laws_FnExactDoAct.j2 kj85 t264 true t265)))) = some r:=H
            have A134:=Aside0.mk A1340
            clear A1340
            replace H:=Option.bind_eq_some_iff.mp H
            obtain ⟨⟨t274,t277⟩,A1350,H⟩:=H
            replace H : ((laws_eqDisk.f kj85 t274 t238).bind fun t279 => (if t279 = true then (laws_FnExactDoAct.j2 kj85 t264 (t277 != t241) t265) else (laws_FnExactDoAct.j2 kj85 t264 true t265))) = some r:=H
            have A135:=Aside0.mk A1350
            clear A1350
            have HC136:=Aside0.mk H
            clear H
            have hnb137:=NB255_227.out
            have hnc137:=NB227_255.out
            have hnb138:=NB255_228.out
            have hnc138:=NB228_255.out
            have hnb139:=NB255_242.out
            have hnc139:=NB242_255.out
            have hnb140:=NB255_246.out
            have hnc140:=NB246_255.out
            have hcz141_0 : wc.cell? ⟨gb255,0,none⟩ = some (.slice Ao57 t251.length co57):=(blk_cell BK255.out 0).trans rfl
            have hfz141_0:=blk_frozen BK255.out 0
            try go_wp2_with (first | ((with_reducible refine gate_callee (f:=32) rfl ?_);refine goesL_ (some 75) rfl rfl Try.func32 (by kernel_rfl) rfl #[.agg #[.slice Ao57 t251.length co57],.int .i64 1] rfl zM0 ?_;(with_reducible refine (laws_markDisk.calls kj85 (fun k_ => some k_ = (.slice Ao57 t251.length co57 : Value).ownBlock) (.slice Ao57 t251.length co57) t251 1 t264 t265 w _ ?side1 ?side2 A121.out).mono ?_);(case side1 => repeat (first | (with_reducible first | exact HB.out | apply below_alloc | apply pw_below_drewN | apply below_drew1 | refine below_set ?_ GE227.out | refine below_set ?_ GE228.out | refine below_set ?_ GE242.out | refine below_set ?_ GE246.out | refine below_set ?_ GE255.out) | exact HB.out));(case side2 => exact Kd.R_tight rfl HO_256000.out);rintro e w142 ⟨rfl,hy0,hb,hkp⟩;refine ⟨_,rfl,?_⟩;have n0_:=Aside0.mk (Kd.R_mono (ok':=fun k_ => some k_ ≠ (.slice Ao46 t262.length co46 : Value).ownBlock ∧ some k_ ≠ (.slice Ao57 t251.length co57 : Value).ownBlock) (Kd.R_keptB (HO_243000.out) hkp (fun k_ hk_ hs_ => (hk_.2) hs_)) (fun k_ hk_ => ⟨hk_.1.1,hk_.1.2⟩));have n1_:=Aside0.mk (Kd.R_mono (ok':=fun k_ => some k_ ≠ (.slice Ao40 t238.length co40 : Value).ownBlock ∧ some k_ ≠ (.slice Ao57 t251.length co57 : Value).ownBlock) (Kd.R_keptB (HO_247000.out) hkp (fun k_ hk_ hs_ => (hk_.2) hs_)) (fun k_ hk_ => ⟨hk_.1.1,hk_.1.2⟩));have n2_:=Aside0.mk (Kd.R_reok rfl hy0 (fun k_ e_ => HO_256000.out.1 k_ e_));have n3_:=Aside0.mk (blk_kept (zK0 BK227.out) hkp (fun hs_ => (fun e_ => (Kd.R_ne HO_256000.out BK227.out (by decide)) e_) hs_));have n4_:=Aside0.mk (blk_kept (zK0 BK228.out) hkp (fun hs_ => (fun e_ => (Kd.R_ne HO_256000.out BK228.out (by decide)) e_) hs_));have n5_:=Aside0.mk (blk_kept (zK0 BK242.out) hkp (fun hs_ => (fun e_ => (Kd.R_ne HO_256000.out BK242.out (by decide)) e_) hs_));have n6_:=Aside0.mk (blk_kept (zK0 BK246.out) hkp (fun hs_ => (fun e_ => (Kd.R_ne HO_256000.out BK246.out (by decide)) e_) hs_));have n7_:=Aside0.mk (blk_kept (zK0 BK255.out) hkp (fun hs_ => (fun e_ => (Kd.R_ne HO_256000.out BK255.out (by decide)) e_) hs_));have n8_:=Aside0.mk (hb);clear HO_243000;clear HO_247000;clear HO_256000;clear BK227;clear BK228;clear BK242;clear BK246;clear BK255;clear HB;have HO_243000:=n0_;have HO_247000:=n1_;have HO_256000:=n2_;have BK227:=n3_;have BK228:=n4_;have BK242:=n5_;have BK246:=n6_;have BK255:=n7_;have HB:=n8_;clear n0_ n1_ n2_ n3_ n4_ n5_ n6_ n7_ n8_;(try clear hb);(try clear hkp);(try clear hy0);have hcz143_0 : w142.cell? ⟨gb255,0,none⟩ = some (.slice Ao57 t251.length co57):=(blk_cell BK255.out 0).trans rfl;have hfz143_0:=blk_frozen BK255.out 0) | ((with_reducible refine gate_callee (f:=34) rfl ?_);refine goesL_ (some 78) rfl rfl Try.func34 (by kernel_rfl) rfl #[.agg #[.slice Ao57 t265.length co57],.int .i64 1] rfl (by (try simp only [List.map_toArray,List.map_cons,List.map_nil]);first | done | (rw [show t265.length = t251.length from (Kd.R_reads' HO_256000.out).1.symm] <;> rfl) | rfl | (simp only [List.length_drop,List.length_take];rfl)) ?_;(with_reducible refine (laws_heldDisk.calls kj85 _ _ t265 1 t266 _ ?side1 ?side2 A122.out).mono ?_);(case side1 => repeat (first | exact (Kd.R_reads' HO_256000.out).2.2 | (with_reducible refine Kd.C_alloc ?_ _) | (with_reducible refine Kd.C_drewN ?_ _) | (with_reducible refine Kd.C_drew ?_)));(case side2 => rw [show t265.length = t251.length from (Kd.R_reads' HO_256000.out).1.symm];exact (Kd.R_reads' HO_256000.out).2.1);rintro e w144 ⟨rfl,hb⟩;refine ⟨_,rfl,?_⟩;have n0_:=Aside0.mk (Kd.R_below (zR0 HO_243000.out) hb);have n1_:=Aside0.mk (Kd.R_below (zR0 HO_247000.out) hb);have n2_:=Aside0.mk (Kd.R_below (zR0 HO_256000.out) hb);have n3_:=Aside0.mk (zB0 BK227.out hb);have n4_:=Aside0.mk (zB0 BK228.out hb);have n5_:=Aside0.mk (zB0 BK242.out hb);have n6_:=Aside0.mk (zB0 BK246.out hb);have n7_:=Aside0.mk (zB0 BK255.out hb);have n8_:=Aside0.mk (zS0 HB.out hb);clear HO_243000;clear HO_247000;clear HO_256000;clear BK227;clear BK228;clear BK242;clear BK246;clear BK255;clear HB;have HO_243000:=n0_;have HO_247000:=n1_;have HO_256000:=n2_;have BK227:=n3_;have BK228:=n4_;have BK242:=n5_;have BK246:=n6_;have BK255:=n7_;have HB:=n8_;clear n0_ n1_ n2_ n3_ n4_ n5_ n6_ n7_ n8_;(try clear hb);(try clear hb2);(try clear hk);(try clear hi)))
            have n0_:=Aside0.mk (Kd.R_drew HO_243000.out)
            have n1_:=Aside0.mk (Kd.R_drew HO_247000.out)
            have n2_:=Aside0.mk (Kd.R_drew HO_256000.out)
            have n3_:=Aside0.mk (blk_drew BK227.out)
            have n4_:=Aside0.mk (blk_drew BK228.out)
            have n5_:=Aside0.mk (blk_drew BK242.out)
            have n6_:=Aside0.mk (blk_drew BK246.out)
            have n7_:=Aside0.mk (blk_drew BK255.out)
            have n8_:=Aside0.mk (below_drew1 HB.out)
            clear HO_243000
            clear HO_247000
            clear HO_256000
            clear BK227
            clear BK228
            clear BK242
            clear BK246
            clear BK255
            clear HB
            have HO_243000:=n0_
            have HO_247000:=n1_
            have HO_256000:=n2_
            have BK227:=n3_
            have BK228:=n4_
            have BK242:=n5_
            have BK246:=n6_
            have BK255:=n7_
            have HB:=n8_
            clear n0_ n1_ n2_ n3_ n4_ n5_ n6_ n7_ n8_
            refine start_ (n:=11) (S:=fun w' => w'.cell? ⟨gb227,0,none⟩ = some (.slice A0_0 l0_0.length c0_0) ∧ w'.cell? ⟨gb228,0,none⟩ = some (.int .i64 a1_0) ∧ w'.cell? ⟨gb228,1,none⟩ = some (.string a1_1) ∧ w'.cell? ⟨gb228,2,none⟩ = some (.string a1_2) ∧ w'.cell? ⟨gb228,3,none⟩ = some (.string a1_3)) (ds:=[]) (zF0 11 0) (by kernel_rfl) rfl rfl ⟨(blk_cell BK227.out 0).trans rfl,(blk_cell BK228.out 0).trans rfl,(blk_cell BK228.out 1).trans rfl,(blk_cell BK228.out 2).trans rfl,(blk_cell BK228.out 3).trans rfl⟩ (fun hHeld => ?_);refine with_tabW laws_FnExactDoAct.tab27 laws_FnExactDoAct.bits27 (fun HT_ HW_ => ?_)
            generalize w144.drew = w145 at HO_243000 HO_247000 HO_256000 BK227 BK228 BK242 BK246 BK255 HB hHeld ⊢
            refine take_ (i:=0) (N:=some 85) (v:=?_) (a':=?_) (zF0 11 1) rfl rfl (take_ofW HT_.out HW_.out (by kernel_rfl)) (fun _ _ _ h => h) (Or.inl ⟨by rfl,?_⟩) hHeld ?_ ?_;rotate_left
            ·rintro w' ⟨s0,s1,s2,s3,s4⟩
             go_simp
             with_reducible rfl
            rotate_left
            ·simp only [Act.put,qA0,qB0,qC0,i64_w,i32_w];rfl
            refine take_ (i:=2) (N:=some 87) (v:=?_) (a':=?_) (zF0 11 5) rfl rfl (take_ofW HT_.out HW_.out (by kernel_rfl)) (fun _ _ _ h => h) (Or.inl ⟨by rfl,?_⟩) hHeld ?_ ?_;rotate_left
            ·rintro w' ⟨s0,s1,s2,s3,s4⟩
             go_simp
             with_reducible rfl
            rotate_left
            ·simp only [Act.put,qA0,qB0,qC0,i64_w,i32_w];rfl
            refine join_ (σ:=Value × Value × Nat) 2 (zF0 11 511) (fun s_ => [(86,.agg #[s_.1]),(88,.agg #[.int .i64 t270,.string t271,.string t272,.string t273]),(89,.tuple #[.agg #[s_.2.1],.bool t277]),(14,.pointer (some ⟨s_.2.2,0,none⟩)),(84,.tuple #[.agg #[s_.2.1],.bool t277]),(90,.agg #[s_.2.1]),(91,.bool t277)]) (fun s_ w' => (w'.cell? ⟨gb227,0,none⟩ = some (.slice A0_0 l0_0.length c0_0) ∧ w'.cell? ⟨gb228,0,none⟩ = some (.int .i64 a1_0) ∧ w'.cell? ⟨gb228,1,none⟩ = some (.string a1_1) ∧ w'.cell? ⟨gb228,2,none⟩ = some (.string a1_2) ∧ w'.cell? ⟨gb228,3,none⟩ = some (.string a1_3)) ∧ (Kd.R k45 45 w' w.heap.size (fun k_ => some k_ ≠ (s_.2.1 : Value).ownBlock ∧ some k_ ≠ (.slice Ao40 t238.length co40 : Value).ownBlock ∧ some k_ ≠ (.slice Ao46 t262.length co46 : Value).ownBlock ∧ some k_ ≠ (.slice Ao57 t251.length co57 : Value).ownBlock) s_.1 t267) ∧ (Kd.R k45 45 w' w.heap.size (fun k_ => some k_ ≠ (s_.1 : Value).ownBlock ∧ some k_ ≠ (.slice Ao40 t238.length co40 : Value).ownBlock ∧ some k_ ≠ (.slice Ao46 t262.length co46 : Value).ownBlock ∧ some k_ ≠ (.slice Ao57 t251.length co57 : Value).ownBlock) s_.2.1 t274) ∧ (Kd.R k45 45 w' w.heap.size (fun k_ => some k_ ≠ (s_.1 : Value).ownBlock ∧ some k_ ≠ (s_.2.1 : Value).ownBlock ∧ some k_ ≠ (.slice Ao46 t262.length co46 : Value).ownBlock ∧ some k_ ≠ (.slice Ao57 t251.length co57 : Value).ownBlock) (.slice Ao40 t238.length co40) t238) ∧ (Kd.R k45 45 w' w.heap.size (fun k_ => some k_ ≠ (s_.1 : Value).ownBlock ∧ some k_ ≠ (s_.2.1 : Value).ownBlock ∧ some k_ ≠ (.slice Ao40 t238.length co40 : Value).ownBlock ∧ some k_ ≠ (.slice Ao57 t251.length co57 : Value).ownBlock) (.slice Ao46 t262.length co46) t262) ∧ (Kd.R k45 45 w' w.heap.size (fun k_ => some k_ ≠ (s_.1 : Value).ownBlock ∧ some k_ ≠ (s_.2.1 : Value).ownBlock ∧ some k_ ≠ (.slice Ao40 t238.length co40 : Value).ownBlock ∧ some k_ ≠ (.slice Ao46 t262.length co46 : Value).ownBlock) (.slice Ao57 t251.length co57) t265) ∧ (w'.heap[gb227]? = some (.cells #[.slice A0_0 l0_0.length c0_0] 24 (0,0))) ∧ (w'.heap[gb228]? = some (.cells #[.int .i64 a1_0,.string a1_1,.string a1_2,.string a1_3] 52 (0,0))) ∧ (w'.heap[gb242]? = some (.cells #[.slice Ao40 t238.length co40] 30 (0,0))) ∧ (w'.heap[gb246]? = some (.cells #[.slice Ao46 t262.length co46] 30 (0,0))) ∧ (w'.heap[gb255]? = some (.cells #[.slice Ao57 t251.length co57] 30 (0,0))) ∧ (w'.heap[s_.2.2]? = some (.cells #[.slice none 0 0] 30 (0,0))) ∧ (w.heap.size ≤ s_.2.2) ∧ (w.heap.size ≤ s_.2.2) ∧ (gb227 ≠ s_.2.2) ∧ (s_.2.2 ≠ gb227) ∧ (gb228 ≠ s_.2.2) ∧ (s_.2.2 ≠ gb228) ∧ (gb242 ≠ s_.2.2) ∧ (s_.2.2 ≠ gb242) ∧ (gb246 ≠ s_.2.2) ∧ (s_.2.2 ≠ gb246) ∧ (gb255 ≠ s_.2.2) ∧ (s_.2.2 ≠ gb255) ∧ (Below w.heap.size w w')) ?_ ?_
            rotate_left
            ·intro hCont
             refine two_ (i:=1) (j:=8) (Ni:=some 86) (Nj:=some 14) (zF0 11 7) (zF0 11 261) rfl rfl rfl rfl (two_of HT_.out (by kernel_rfl)) (by decide) (by decide) (fun K hK => ?_) (fun K hK => ?_)
             ·skip
              refine goes_ Try.func16 (by kernel_rfl) rfl #[.agg #[.slice A0_0 l0_0.length c0_0]] (by rfl) rfl rfl zM0 ?_
              with_reducible refine (laws_toDisk.calls kj85 _ _ l0_0 t267 _ ?side1 ?side2 A133.out).mono ?_
              (case side1 => repeat (first | exact (Kd.C_below HR0_0.out HB.out) | (with_reducible refine Kd.C_alloc ?_ _) | (with_reducible refine Kd.C_drewN ?_ _) | (with_reducible refine Kd.C_drew ?_)))
              (case side2 => exact HC0_0.out)
              rintro e w146 ⟨v268,rfl,ho0,hb⟩
              refine ⟨_,rfl,?_⟩
              have n0_:=Aside0.mk (Kd.R_elder' (zR0 HO_243000.out) (Kd.R_base ho0) hb)
              have n1_:=Aside0.mk (Kd.R_elder' (zR0 HO_247000.out) (Kd.R_base ho0) hb)
              have n2_:=Aside0.mk (Kd.R_elder' (zR0 HO_256000.out) (Kd.R_base ho0) hb)
              have n3_:=Aside0.mk (Kd.R_lower (Kd.R_new' (Kd.R_new' (Kd.R_new' ho0 (Kd.R_lt (zR0 HO_243000.out))) (Kd.R_lt (zR0 HO_247000.out))) (Kd.R_lt (zR0 HO_256000.out))) (zZ0 HB.out))
              have n4_:=Aside0.mk (zB0 BK227.out hb)
              have n5_:=Aside0.mk (zB0 BK228.out hb)
              have n6_:=Aside0.mk (zB0 BK242.out hb)
              have n7_:=Aside0.mk (zB0 BK246.out hb)
              have n8_:=Aside0.mk (zB0 BK255.out hb)
              have n9_:=Aside0.mk (zS0 HB.out hb)
              clear HO_243000
              clear HO_247000
              clear HO_256000
              clear BK227
              clear BK228
              clear BK242
              clear BK246
              clear BK255
              clear HB
              have HO_243000:=n0_
              have HO_247000:=n1_
              have HO_256000:=n2_
              have HO269:=n3_
              have BK227:=n4_
              have BK228:=n5_
              have BK242:=n6_
              have BK246:=n7_
              have BK255:=n8_
              have HB:=n9_
              clear n0_ n1_ n2_ n3_ n4_ n5_ n6_ n7_ n8_ n9_
              (try clear hb)
              (try clear hb2)
              (try clear hk)
              (try clear hi)
              (try clear ho0)
              refine hK.out _ _ ⟨(blk_cell BK227.out 0).trans rfl,(blk_cell BK228.out 0).trans rfl,(blk_cell BK228.out 1).trans rfl,(blk_cell BK228.out 2).trans rfl,(blk_cell BK228.out 3).trans rfl⟩ (fun hHeld => ?_)
              clear hK K
              refine norm_ (a':=?_) ?_ ?_;rotate_left
              ·show Act.put _ (some 86) _ = _;simp only [Act.put,qA0,qB0,qC0,i64_w,i32_w];rfl
              refine two_ (i:=3) (j:=8) (Ni:=some 88) (Nj:=some 14) (zF0 11 15) (zF0 11 263) rfl rfl rfl rfl (two_of HT_.out (by kernel_rfl)) (by decide) (by decide) (fun K hK => ?_) (fun K hK => ?_)
              ·skip
               refine goes_ Try.func37 (by kernel_rfl) rfl #[.agg #[.int .i64 a1_0,.string a1_1,.string a1_2,.string a1_3]] (by rfl) rfl rfl zM0 ?_
               with_reducible refine (laws_toAct.calls a1_0 a1_1 a1_2 a1_3 t270 t271 t272 t273 _ A134.out).mono ?_
               rintro e w147 ⟨rfl,hb⟩
               refine ⟨_,rfl,?_⟩
               have n0_:=Aside0.mk (Kd.R_below (zR0 HO_243000.out) hb)
               have n1_:=Aside0.mk (Kd.R_below (zR0 HO_247000.out) hb)
               have n2_:=Aside0.mk (Kd.R_below (zR0 HO_256000.out) hb)
               have n3_:=Aside0.mk (Kd.R_below (zR0 HO269.out) hb)
               have n4_:=Aside0.mk (zB0 BK227.out hb)
               have n5_:=Aside0.mk (zB0 BK228.out hb)
               have n6_:=Aside0.mk (zB0 BK242.out hb)
               have n7_:=Aside0.mk (zB0 BK246.out hb)
               have n8_:=Aside0.mk (zB0 BK255.out hb)
               have n9_:=Aside0.mk (zS0 HB.out hb)
               clear HO_243000
               clear HO_247000
               clear HO_256000
               clear HO269
               clear BK227
               clear BK228
               clear BK242
               clear BK246
               clear BK255
               clear HB
               have HO_243000:=n0_
               have HO_247000:=n1_
               have HO_256000:=n2_
               have HO269:=n3_
               have BK227:=n4_
               have BK228:=n5_
               have BK242:=n6_
               have BK246:=n7_
               have BK255:=n8_
               have HB:=n9_
               clear n0_ n1_ n2_ n3_ n4_ n5_ n6_ n7_ n8_ n9_
               (try clear hb)
               (try clear hb2)
               (try clear hk)
               (try clear hi)
               obtain ⟨Ao148,co148,eo148⟩:=Kd.R_slice HO269.out
               (first | subst eo148 | (injection eo148 with f1_ f2_ f3_;have f4_:=f1_.symm;have f5_:=f3_.symm;clear f1_ f2_ f3_;subst f4_;subst f5_))
               refine hK.out _ _ ⟨(blk_cell BK227.out 0).trans rfl,(blk_cell BK228.out 0).trans rfl,(blk_cell BK228.out 1).trans rfl,(blk_cell BK228.out 2).trans rfl,(blk_cell BK228.out 3).trans rfl⟩ (fun hHeld => ?_)
               clear hK K
               refine norm_ (a':=?_) ?_ ?_;rotate_left
               ·show Act.put _ (some 88) _ = _;simp only [Act.put,qA0,qB0,qC0,i64_w,i32_w];rfl
               refine two_ (i:=4) (j:=8) (Ni:=some 89) (Nj:=some 14) (zF0 11 31) (zF0 11 271) rfl rfl rfl rfl (two_of HT_.out (by kernel_rfl)) (by decide) (by decide) (fun K hK => ?_) (fun K hK => ?_)
               ·skip
                refine goes_ Try.func38 (by kernel_rfl) rfl #[.agg #[.slice Ao148 t267.length co148],.agg #[.int .i64 t270,.string t271,.string t272,.string t273]] (by rfl) rfl rfl zM0 ?_
                with_reducible refine (impl_DoAct.calls kj85 _ _ t267 t270 t271 t272 t273 t274 t277 _ ?side1 ?side2 A135.out).mono ?_
                (case side1 => repeat (first | exact (Kd.R_reads' HO269.out).2.2 | (with_reducible refine Kd.C_alloc ?_ _) | (with_reducible refine Kd.C_drewN ?_ _) | (with_reducible refine Kd.C_drew ?_)))
                (case side2 => exact (Kd.R_reads' HO269.out).2.1)
                rintro e w149 ⟨v275,rfl,ho0,hb⟩
                refine ⟨_,rfl,?_⟩
                have n0_:=Aside0.mk (Kd.R_elder' (zR0 HO_243000.out) (Kd.R_base ho0) hb)
                have n1_:=Aside0.mk (Kd.R_elder' (zR0 HO_247000.out) (Kd.R_base ho0) hb)
                have n2_:=Aside0.mk (Kd.R_elder' (zR0 HO_256000.out) (Kd.R_base ho0) hb)
                have n3_:=Aside0.mk (Kd.R_elder' (zR0 HO269.out) (Kd.R_base ho0) hb)
                have n4_:=Aside0.mk (Kd.R_lower (Kd.R_new' (Kd.R_new' (Kd.R_new' (Kd.R_new' ho0 (Kd.R_lt (zR0 HO_243000.out))) (Kd.R_lt (zR0 HO_247000.out))) (Kd.R_lt (zR0 HO_256000.out))) (Kd.R_lt (zR0 HO269.out))) (zZ0 HB.out))
                have n5_:=Aside0.mk (zB0 BK227.out hb)
                have n6_:=Aside0.mk (zB0 BK228.out hb)
                have n7_:=Aside0.mk (zB0 BK242.out hb)
                have n8_:=Aside0.mk (zB0 BK246.out hb)
                have n9_:=Aside0.mk (zB0 BK255.out hb)
                have n10_:=Aside0.mk (zS0 HB.out hb)
                clear HO_243000
                clear HO_247000
                clear HO_256000
                clear HO269
                clear BK227
                clear BK228
                clear BK242
                clear BK246
                clear BK255
                clear HB
                have HO_243000:=n0_
                have HO_247000:=n1_
                have HO_256000:=n2_
                have HO269:=n3_
                have HO276:=n4_
                have BK227:=n5_
                have BK228:=n6_
                have BK242:=n7_
                have BK246:=n8_
                have BK255:=n9_
                have HB:=n10_
                clear n0_ n1_ n2_ n3_ n4_ n5_ n6_ n7_ n8_ n9_ n10_
                (try clear hb)
                (try clear hb2)
                (try clear hk)
                (try clear hi)
                (try clear ho0)
                refine hK.out _ _ ⟨(blk_cell BK227.out 0).trans rfl,(blk_cell BK228.out 0).trans rfl,(blk_cell BK228.out 1).trans rfl,(blk_cell BK228.out 2).trans rfl,(blk_cell BK228.out 3).trans rfl⟩ (fun hHeld => ?_)
                clear hK K
                refine norm_ (a':=?_) ?_ ?_;rotate_left
                ·show Act.put _ (some 89) _ = _;simp only [Act.put,qA0,qB0,qC0,i64_w,i32_w];rfl
                refine zP0 (i:=5) (N:=some 84) (zF0 11 63) rfl rfl HT_.out ?_
                refine zP0 (i:=6) (N:=some 90) (zF0 11 127) rfl rfl HT_.out ?_
                refine zP0 (i:=7) (N:=some 91) (zF0 11 255) rfl rfl HT_.out ?_
                refine one_ (i:=8) (N:=some 14) (zF0 11 511) rfl rfl (one_of HT_.out (by kernel_rfl)) (by decide) (fun K hK => ?_)
                refine box_step ?hg (N:=14) ?hd (cs:=#[.slice none 0 0]) (t:=30) ?hr ?_;(case hd => rfl);(case hg => rfl);(case hr => first | (go_simp;done) | (go_simp;rfl))
                intro gb278 hg w150 hbox hb
                have n0_:=Aside0.mk (Kd.R_below (zR0 HO_243000.out) hb)
                have n1_:=Aside0.mk (Kd.R_below (zR0 HO_247000.out) hb)
                have n2_:=Aside0.mk (Kd.R_below (zR0 HO_256000.out) hb)
                have n3_:=Aside0.mk (Kd.R_below (zR0 HO269.out) hb)
                have n4_:=Aside0.mk (Kd.R_below (zR0 HO276.out) hb)
                have n5_:=Aside0.mk (zB0 BK227.out hb)
                have n6_:=Aside0.mk (zB0 BK228.out hb)
                have n7_:=Aside0.mk (zB0 BK242.out hb)
                have n8_:=Aside0.mk (zB0 BK246.out hb)
                have n9_:=Aside0.mk (zB0 BK255.out hb)
                have n10_:=Aside0.mk (zS0 HB.out hb)
                have n11_:=Aside0.mk (hbox)
                have n12_:=Aside0.mk ((by rw [hg];exact (zZ0 HB.out) : w.heap.size ≤ gb278))
                have n13_:=Aside0.mk ((by rw [hg];exact (zZ0 HB.out) : w.heap.size ≤ gb278))
                have n14_:=Aside0.mk ((zL0 hg BK227.out : gb227 ≠ gb278))
                have n15_:=Aside0.mk ((zG0 hg BK227.out : gb278 ≠ gb227))
                have n16_:=Aside0.mk ((zL0 hg BK228.out : gb228 ≠ gb278))
                have n17_:=Aside0.mk ((zG0 hg BK228.out : gb278 ≠ gb228))
                have n18_:=Aside0.mk ((zL0 hg BK242.out : gb242 ≠ gb278))
                have n19_:=Aside0.mk ((zG0 hg BK242.out : gb278 ≠ gb242))
                have n20_:=Aside0.mk ((zL0 hg BK246.out : gb246 ≠ gb278))
                have n21_:=Aside0.mk ((zG0 hg BK246.out : gb278 ≠ gb246))
                have n22_:=Aside0.mk ((zL0 hg BK255.out : gb255 ≠ gb278))
                have n23_:=Aside0.mk ((zG0 hg BK255.out : gb278 ≠ gb255))
                clear HO_243000
                clear HO_247000
                clear HO_256000
                clear HO269
                clear HO276
                clear BK227
                clear BK228
                clear BK242
                clear BK246
                clear BK255
                clear HB
                have HO_243000:=n0_
                have HO_247000:=n1_
                have HO_256000:=n2_
                have HO269:=n3_
                have HO276:=n4_
                have BK227:=n5_
                have BK228:=n6_
                have BK242:=n7_
                have BK246:=n8_
                have BK255:=n9_
                have HB:=n10_
                have BK278:=n11_
                have GW278:=n12_
                have GE278:=n13_
                have NB227_278:=n14_
                have NB278_227:=n15_
                have NB228_278:=n16_
                have NB278_228:=n17_
                have NB242_278:=n18_
                have NB278_242:=n19_
                have NB246_278:=n20_
                have NB278_246:=n21_
                have NB255_278:=n22_
                have NB278_255:=n23_
                clear n0_ n1_ n2_ n3_ n4_ n5_ n6_ n7_ n8_ n9_ n10_ n11_ n12_ n13_ n14_ n15_ n16_ n17_ n18_ n19_ n20_ n21_ n22_ n23_
                clear hb hbox hg
                refine hK.out _ _ ⟨(blk_cell BK227.out 0).trans rfl,(blk_cell BK228.out 0).trans rfl,(blk_cell BK228.out 1).trans rfl,(blk_cell BK228.out 2).trans rfl,(blk_cell BK228.out 3).trans rfl⟩ (fun hHeld => ?_)
                clear hK K
                refine norm_ (a':=?_) ?_ ?_;rotate_left
                ·show Act.put _ (some 14) _ = _;simp only [Act.put,qA0,qB0,qC0,i64_w,i32_w];rfl
                exact norm_ (by simp only [putAll,Act.put,qA0,qB0,qC0]) (hCont (.slice Ao148 t267.length co148,v275,gb278) _ ⟨hHeld,(by (with_reducible repeat (first | apply Kd.R_alloc | apply Kd.R_drewN | apply Kd.R_drew));exact Kd.R_mono HO269.out (fun _ hk => ⟨hk.2,⟨hk.1.1.1.2,⟨hk.1.1.2,hk.1.2⟩⟩⟩)),(by (with_reducible repeat (first | apply Kd.R_alloc | apply Kd.R_drewN | apply Kd.R_drew));exact Kd.R_mono HO276.out (fun _ hk => ⟨hk.2,⟨hk.1.1.1.2,⟨hk.1.1.2,hk.1.2⟩⟩⟩)),(by (with_reducible repeat (first | apply Kd.R_alloc | apply Kd.R_drewN | apply Kd.R_drew));exact Kd.R_mono HO_243000.out (fun _ hk => ⟨hk.1.2,⟨hk.2,⟨hk.1.1.1,hk.1.1.2⟩⟩⟩)),(by (with_reducible repeat (first | apply Kd.R_alloc | apply Kd.R_drewN | apply Kd.R_drew));exact Kd.R_mono HO_247000.out (fun _ hk => ⟨hk.1.2,⟨hk.2,⟨hk.1.1.1,hk.1.1.2⟩⟩⟩)),(by (with_reducible repeat (first | apply Kd.R_alloc | apply Kd.R_drewN | apply Kd.R_drew));exact Kd.R_mono HO_256000.out (fun _ hk => ⟨hk.1.2,⟨hk.2,⟨hk.1.1.1,hk.1.1.2⟩⟩⟩)),(zK0 BK227.out),(zK0 BK228.out),(zK0 BK242.out),(zK0 BK246.out),(zK0 BK255.out),(zK0 BK278.out),GW278.out,GE278.out,NB227_278.out,NB278_227.out,NB228_278.out,NB278_228.out,NB242_278.out,NB278_242.out,NB246_278.out,NB278_246.out,NB255_278.out,NB278_255.out,(by repeat (first | (with_reducible first | exact HB.out | apply below_alloc | apply pw_below_drewN | apply below_drew1 | refine below_set ?_ GE227.out | refine below_set ?_ GE228.out | refine below_set ?_ GE242.out | refine below_set ?_ GE246.out | refine below_set ?_ GE255.out | refine below_set ?_ GE278.out) | exact HB.out))⟩)
               ·skip
                refine box_step ?hg (N:=14) ?hd (cs:=#[.slice none 0 0]) (t:=30) ?hr ?_;(case hd => rfl);(case hg => rfl);(case hr => first | (go_simp;done) | (go_simp;rfl))
                intro gb278 hg w148 hbox hb
                have n0_:=Aside0.mk (Kd.R_below (zR0 HO_243000.out) hb)
                have n1_:=Aside0.mk (Kd.R_below (zR0 HO_247000.out) hb)
                have n2_:=Aside0.mk (Kd.R_below (zR0 HO_256000.out) hb)
                have n3_:=Aside0.mk (Kd.R_below (zR0 HO269.out) hb)
                have n4_:=Aside0.mk (zB0 BK227.out hb)
                have n5_:=Aside0.mk (zB0 BK228.out hb)
                have n6_:=Aside0.mk (zB0 BK242.out hb)
                have n7_:=Aside0.mk (zB0 BK246.out hb)
                have n8_:=Aside0.mk (zB0 BK255.out hb)
                have n9_:=Aside0.mk (zS0 HB.out hb)
                have n10_:=Aside0.mk (hbox)
                have n11_:=Aside0.mk ((by rw [hg];exact (zZ0 HB.out) : w.heap.size ≤ gb278))
                have n12_:=Aside0.mk ((by rw [hg];exact (zZ0 HB.out) : w.heap.size ≤ gb278))
                have n13_:=Aside0.mk ((zL0 hg BK227.out : gb227 ≠ gb278))
                have n14_:=Aside0.mk ((zG0 hg BK227.out : gb278 ≠ gb227))
                have n15_:=Aside0.mk ((zL0 hg BK228.out : gb228 ≠ gb278))
                have n16_:=Aside0.mk ((zG0 hg BK228.out : gb278 ≠ gb228))
                have n17_:=Aside0.mk ((zL0 hg BK242.out : gb242 ≠ gb278))
                have n18_:=Aside0.mk ((zG0 hg BK242.out : gb278 ≠ gb242))
                have n19_:=Aside0.mk ((zL0 hg BK246.out : gb246 ≠ gb278))
                have n20_:=Aside0.mk ((zG0 hg BK246.out : gb278 ≠ gb246))
                have n21_:=Aside0.mk ((zL0 hg BK255.out : gb255 ≠ gb278))
                have n22_:=Aside0.mk ((zG0 hg BK255.out : gb278 ≠ gb255))
                clear HO_243000
                clear HO_247000
                clear HO_256000
                clear HO269
                clear BK227
                clear BK228
                clear BK242
                clear BK246
                clear BK255
                clear HB
                have HO_243000:=n0_
                have HO_247000:=n1_
                have HO_256000:=n2_
                have HO269:=n3_
                have BK227:=n4_
                have BK228:=n5_
                have BK242:=n6_
                have BK246:=n7_
                have BK255:=n8_
                have HB:=n9_
                have BK278:=n10_
                have GW278:=n11_
                have GE278:=n12_
                have NB227_278:=n13_
                have NB278_227:=n14_
                have NB228_278:=n15_
                have NB278_228:=n16_
                have NB242_278:=n17_
                have NB278_242:=n18_
                have NB246_278:=n19_
                have NB278_246:=n20_
                have NB255_278:=n21_
                have NB278_255:=n22_
                clear n0_ n1_ n2_ n3_ n4_ n5_ n6_ n7_ n8_ n9_ n10_ n11_ n12_ n13_ n14_ n15_ n16_ n17_ n18_ n19_ n20_ n21_ n22_
                clear hb hbox hg
                obtain ⟨Ao149,co149,eo149⟩:=Kd.R_slice HO269.out
                (first | subst eo149 | (injection eo149 with f1_ f2_ f3_;have f4_:=f1_.symm;have f5_:=f3_.symm;clear f1_ f2_ f3_;subst f4_;subst f5_))
                refine hK.out _ _ ⟨(blk_cell BK227.out 0).trans rfl,(blk_cell BK228.out 0).trans rfl,(blk_cell BK228.out 1).trans rfl,(blk_cell BK228.out 2).trans rfl,(blk_cell BK228.out 3).trans rfl⟩ (fun hHeld => ?_)
                clear hK K
                refine norm_ (a':=?_) ?_ ?_;rotate_left
                ·show Act.put _ (some 14) _ = _;simp only [Act.put,qA0,qB0,qC0,i64_w,i32_w];rfl
                refine one_ (i:=4) (N:=some 89) (zF0 11 287) rfl rfl (one_of HT_.out (by kernel_rfl)) (by decide) (fun K hK => ?_)
                refine goes_ Try.func38 (by kernel_rfl) rfl #[.agg #[.slice Ao149 t267.length co149],.agg #[.int .i64 t270,.string t271,.string t272,.string t273]] (by rfl) rfl rfl zM0 ?_
                with_reducible refine (impl_DoAct.calls kj85 _ _ t267 t270 t271 t272 t273 t274 t277 _ ?side1 ?side2 A135.out).mono ?_
                (case side1 => repeat (first | exact (Kd.R_reads' HO269.out).2.2 | (with_reducible refine Kd.C_alloc ?_ _) | (with_reducible refine Kd.C_drewN ?_ _) | (with_reducible refine Kd.C_drew ?_)))
                (case side2 => exact (Kd.R_reads' HO269.out).2.1)
                rintro e w150 ⟨v275,rfl,ho0,hb⟩
                refine ⟨_,rfl,?_⟩
                have n0_:=Aside0.mk (Kd.R_elder' (zR0 HO_243000.out) (Kd.R_base ho0) hb)
                have n1_:=Aside0.mk (Kd.R_elder' (zR0 HO_247000.out) (Kd.R_base ho0) hb)
                have n2_:=Aside0.mk (Kd.R_elder' (zR0 HO_256000.out) (Kd.R_base ho0) hb)
                have n3_:=Aside0.mk (Kd.R_elder' (zR0 HO269.out) (Kd.R_base ho0) hb)
                have n4_:=Aside0.mk (Kd.R_lower (Kd.R_new' (Kd.R_new' (Kd.R_new' (Kd.R_new' ho0 (Kd.R_lt (zR0 HO_243000.out))) (Kd.R_lt (zR0 HO_247000.out))) (Kd.R_lt (zR0 HO_256000.out))) (Kd.R_lt (zR0 HO269.out))) (zZ0 HB.out))
                have n5_:=Aside0.mk (zB0 BK227.out hb)
                have n6_:=Aside0.mk (zB0 BK228.out hb)
                have n7_:=Aside0.mk (zB0 BK242.out hb)
                have n8_:=Aside0.mk (zB0 BK246.out hb)
                have n9_:=Aside0.mk (zB0 BK255.out hb)
                have n10_:=Aside0.mk (zB0 BK278.out hb)
                have n11_:=Aside0.mk (zS0 HB.out hb)
                clear HO_243000
                clear HO_247000
                clear HO_256000
                clear HO269
                clear BK227
                clear BK228
                clear BK242
                clear BK246
                clear BK255
                clear BK278
                clear HB
                have HO_243000:=n0_
                have HO_247000:=n1_
                have HO_256000:=n2_
                have HO269:=n3_
                have HO276:=n4_
                have BK227:=n5_
                have BK228:=n6_
                have BK242:=n7_
                have BK246:=n8_
                have BK255:=n9_
                have BK278:=n10_
                have HB:=n11_
                clear n0_ n1_ n2_ n3_ n4_ n5_ n6_ n7_ n8_ n9_ n10_ n11_
                (try clear hb)
                (try clear hb2)
                (try clear hk)
                (try clear hi)
                (try clear ho0)
                refine hK.out _ _ ⟨(blk_cell BK227.out 0).trans rfl,(blk_cell BK228.out 0).trans rfl,(blk_cell BK228.out 1).trans rfl,(blk_cell BK228.out 2).trans rfl,(blk_cell BK228.out 3).trans rfl⟩ (fun hHeld => ?_)
                clear hK K
                refine norm_ (a':=?_) ?_ ?_;rotate_left
                ·show Act.put _ (some 89) _ = _;simp only [Act.put,qA0,qB0,qC0,i64_w,i32_w];rfl
                refine zP0 (i:=5) (N:=some 84) (zF0 11 319) rfl rfl HT_.out ?_
                refine zP0 (i:=6) (N:=some 90) (zF0 11 383) rfl rfl HT_.out ?_
                refine zP0 (i:=7) (N:=some 91) (zF0 11 511) rfl rfl HT_.out ?_
                exact norm_ (by simp only [putAll,Act.put,qA0,qB0,qC0]) (hCont (.slice Ao149 t267.length co149,v275,gb278) _ ⟨hHeld,(by (with_reducible repeat (first | apply Kd.R_alloc | apply Kd.R_drewN | apply Kd.R_drew));exact Kd.R_mono HO269.out (fun _ hk => ⟨hk.2,⟨hk.1.1.1.2,⟨hk.1.1.2,hk.1.2⟩⟩⟩)),(by (with_reducible repeat (first | apply Kd.R_alloc | apply Kd.R_drewN | apply Kd.R_drew));exact Kd.R_mono HO276.out (fun _ hk => ⟨hk.2,⟨hk.1.1.1.2,⟨hk.1.1.2,hk.1.2⟩⟩⟩)),(by (with_reducible repeat (first | apply Kd.R_alloc | apply Kd.R_drewN | apply Kd.R_drew));exact Kd.R_mono HO_243000.out (fun _ hk => ⟨hk.1.2,⟨hk.2,⟨hk.1.1.1,hk.1.1.2⟩⟩⟩)),(by (with_reducible repeat (first | apply Kd.R_alloc | apply Kd.R_drewN | apply Kd.R_drew));exact Kd.R_mono HO_247000.out (fun _ hk => ⟨hk.1.2,⟨hk.2,⟨hk.1.1.1,hk.1.1.2⟩⟩⟩)),(by (with_reducible repeat (first | apply Kd.R_alloc | apply Kd.R_drewN | apply Kd.R_drew));exact Kd.R_mono HO_256000.out (fun _ hk => ⟨hk.1.2,⟨hk.2,⟨hk.1.1.1,hk.1.1.2⟩⟩⟩)),(zK0 BK227.out),(zK0 BK228.out),(zK0 BK242.out),(zK0 BK246.out),(zK0 BK255.out),(zK0 BK278.out),GW278.out,GE278.out,NB227_278.out,NB278_227.out,NB228_278.out,NB278_228.out,NB242_278.out,NB278_242.out,NB246_278.out,NB278_246.out,NB255_278.out,NB278_255.out,(by repeat (first | (with_reducible first | exact HB.out | apply below_alloc | apply pw_below_drewN | apply below_drew1 | refine below_set ?_ GE227.out | refine below_set ?_ GE228.out | refine below_set ?_ GE242.out | refine below_set ?_ GE246.out | refine below_set ?_ GE255.out | refine below_set ?_ GE278.out) | exact HB.out))⟩)
              ·skip
               refine box_step ?hg (N:=14) ?hd (cs:=#[.slice none 0 0]) (t:=30) ?hr ?_;(case hd => rfl);(case hg => rfl);(case hr => first | (go_simp;done) | (go_simp;rfl))
               intro gb278 hg w147 hbox hb
               have n0_:=Aside0.mk (Kd.R_below (zR0 HO_243000.out) hb)
               have n1_:=Aside0.mk (Kd.R_below (zR0 HO_247000.out) hb)
               have n2_:=Aside0.mk (Kd.R_below (zR0 HO_256000.out) hb)
               have n3_:=Aside0.mk (Kd.R_below (zR0 HO269.out) hb)
               have n4_:=Aside0.mk (zB0 BK227.out hb)
               have n5_:=Aside0.mk (zB0 BK228.out hb)
               have n6_:=Aside0.mk (zB0 BK242.out hb)
               have n7_:=Aside0.mk (zB0 BK246.out hb)
               have n8_:=Aside0.mk (zB0 BK255.out hb)
               have n9_:=Aside0.mk (zS0 HB.out hb)
               have n10_:=Aside0.mk (hbox)
               have n11_:=Aside0.mk ((by rw [hg];exact (zZ0 HB.out) : w.heap.size ≤ gb278))
               have n12_:=Aside0.mk ((by rw [hg];exact (zZ0 HB.out) : w.heap.size ≤ gb278))
               have n13_:=Aside0.mk ((zL0 hg BK227.out : gb227 ≠ gb278))
               have n14_:=Aside0.mk ((zG0 hg BK227.out : gb278 ≠ gb227))
               have n15_:=Aside0.mk ((zL0 hg BK228.out : gb228 ≠ gb278))
               have n16_:=Aside0.mk ((zG0 hg BK228.out : gb278 ≠ gb228))
               have n17_:=Aside0.mk ((zL0 hg BK242.out : gb242 ≠ gb278))
               have n18_:=Aside0.mk ((zG0 hg BK242.out : gb278 ≠ gb242))
               have n19_:=Aside0.mk ((zL0 hg BK246.out : gb246 ≠ gb278))
               have n20_:=Aside0.mk ((zG0 hg BK246.out : gb278 ≠ gb246))
               have n21_:=Aside0.mk ((zL0 hg BK255.out : gb255 ≠ gb278))
               have n22_:=Aside0.mk ((zG0 hg BK255.out : gb278 ≠ gb255))
               clear HO_243000
               clear HO_247000
               clear HO_256000
               clear HO269
               clear BK227
               clear BK228
               clear BK242
               clear BK246
               clear BK255
               clear HB
               have HO_243000:=n0_
               have HO_247000:=n1_
               have HO_256000:=n2_
               have HO269:=n3_
               have BK227:=n4_
               have BK228:=n5_
               have BK242:=n6_
               have BK246:=n7_
               have BK255:=n8_
               have HB:=n9_
               have BK278:=n10_
               have GW278:=n11_
               have GE278:=n12_
               have NB227_278:=n13_
               have NB278_227:=n14_
               have NB228_278:=n15_
               have NB278_228:=n16_
               have NB242_278:=n17_
               have NB278_242:=n18_
               have NB246_278:=n19_
               have NB278_246:=n20_
               have NB255_278:=n21_
               have NB278_255:=n22_
               clear n0_ n1_ n2_ n3_ n4_ n5_ n6_ n7_ n8_ n9_ n10_ n11_ n12_ n13_ n14_ n15_ n16_ n17_ n18_ n19_ n20_ n21_ n22_
               clear hb hbox hg
               refine hK.out _ _ ⟨(blk_cell BK227.out 0).trans rfl,(blk_cell BK228.out 0).trans rfl,(blk_cell BK228.out 1).trans rfl,(blk_cell BK228.out 2).trans rfl,(blk_cell BK228.out 3).trans rfl⟩ (fun hHeld => ?_)
               clear hK K
               refine norm_ (a':=?_) ?_ ?_;rotate_left
               ·show Act.put _ (some 14) _ = _;simp only [Act.put,qA0,qB0,qC0,i64_w,i32_w];rfl
               refine one_ (i:=3) (N:=some 88) (zF0 11 271) rfl rfl (one_of HT_.out (by kernel_rfl)) (by decide) (fun K hK => ?_)
               refine goes_ Try.func37 (by kernel_rfl) rfl #[.agg #[.int .i64 a1_0,.string a1_1,.string a1_2,.string a1_3]] (by rfl) rfl rfl zM0 ?_
               with_reducible refine (laws_toAct.calls a1_0 a1_1 a1_2 a1_3 t270 t271 t272 t273 _ A134.out).mono ?_
               rintro e w148 ⟨rfl,hb⟩
               refine ⟨_,rfl,?_⟩
               have n0_:=Aside0.mk (Kd.R_below (zR0 HO_243000.out) hb)
               have n1_:=Aside0.mk (Kd.R_below (zR0 HO_247000.out) hb)
               have n2_:=Aside0.mk (Kd.R_below (zR0 HO_256000.out) hb)
               have n3_:=Aside0.mk (Kd.R_below (zR0 HO269.out) hb)
               have n4_:=Aside0.mk (zB0 BK227.out hb)
               have n5_:=Aside0.mk (zB0 BK228.out hb)
               have n6_:=Aside0.mk (zB0 BK242.out hb)
               have n7_:=Aside0.mk (zB0 BK246.out hb)
               have n8_:=Aside0.mk (zB0 BK255.out hb)
               have n9_:=Aside0.mk (zB0 BK278.out hb)
               have n10_:=Aside0.mk (zS0 HB.out hb)
               clear HO_243000
               clear HO_247000
               clear HO_256000
               clear HO269
               clear BK227
               clear BK228
               clear BK242
               clear BK246
               clear BK255
               clear BK278
               clear HB
               have HO_243000:=n0_
               have HO_247000:=n1_
               have HO_256000:=n2_
               have HO269:=n3_
               have BK227:=n4_
               have BK228:=n5_
               have BK242:=n6_
               have BK246:=n7_
               have BK255:=n8_
               have BK278:=n9_
               have HB:=n10_
               clear n0_ n1_ n2_ n3_ n4_ n5_ n6_ n7_ n8_ n9_ n10_
               (try clear hb)
               (try clear hb2)
               (try clear hk)
               (try clear hi)
               obtain ⟨Ao149,co149,eo149⟩:=Kd.R_slice HO269.out
               (first | subst eo149 | (injection eo149 with f1_ f2_ f3_;have f4_:=f1_.symm;have f5_:=f3_.symm;clear f1_ f2_ f3_;subst f4_;subst f5_))
               refine hK.out _ _ ⟨(blk_cell BK227.out 0).trans rfl,(blk_cell BK228.out 0).trans rfl,(blk_cell BK228.out 1).trans rfl,(blk_cell BK228.out 2).trans rfl,(blk_cell BK228.out 3).trans rfl⟩ (fun hHeld => ?_)
               clear hK K
               refine norm_ (a':=?_) ?_ ?_;rotate_left
               ·show Act.put _ (some 88) _ = _;simp only [Act.put,qA0,qB0,qC0,i64_w,i32_w];rfl
               refine one_ (i:=4) (N:=some 89) (zF0 11 287) rfl rfl (one_of HT_.out (by kernel_rfl)) (by decide) (fun K hK => ?_)
               refine goes_ Try.func38 (by kernel_rfl) rfl #[.agg #[.slice Ao149 t267.length co149],.agg #[.int .i64 t270,.string t271,.string t272,.string t273]] (by rfl) rfl rfl zM0 ?_
               with_reducible refine (impl_DoAct.calls kj85 _ _ t267 t270 t271 t272 t273 t274 t277 _ ?side1 ?side2 A135.out).mono ?_
               (case side1 => repeat (first | exact (Kd.R_reads' HO269.out).2.2 | (with_reducible refine Kd.C_alloc ?_ _) | (with_reducible refine Kd.C_drewN ?_ _) | (with_reducible refine Kd.C_drew ?_)))
               (case side2 => exact (Kd.R_reads' HO269.out).2.1)
               rintro e w150 ⟨v275,rfl,ho0,hb⟩
               refine ⟨_,rfl,?_⟩
               have n0_:=Aside0.mk (Kd.R_elder' (zR0 HO_243000.out) (Kd.R_base ho0) hb)
               have n1_:=Aside0.mk (Kd.R_elder' (zR0 HO_247000.out) (Kd.R_base ho0) hb)
               have n2_:=Aside0.mk (Kd.R_elder' (zR0 HO_256000.out) (Kd.R_base ho0) hb)
               have n3_:=Aside0.mk (Kd.R_elder' (zR0 HO269.out) (Kd.R_base ho0) hb)
               have n4_:=Aside0.mk (Kd.R_lower (Kd.R_new' (Kd.R_new' (Kd.R_new' (Kd.R_new' ho0 (Kd.R_lt (zR0 HO_243000.out))) (Kd.R_lt (zR0 HO_247000.out))) (Kd.R_lt (zR0 HO_256000.out))) (Kd.R_lt (zR0 HO269.out))) (zZ0 HB.out))
               have n5_:=Aside0.mk (zB0 BK227.out hb)
               have n6_:=Aside0.mk (zB0 BK228.out hb)
               have n7_:=Aside0.mk (zB0 BK242.out hb)
               have n8_:=Aside0.mk (zB0 BK246.out hb)
               have n9_:=Aside0.mk (zB0 BK255.out hb)
               have n10_:=Aside0.mk (zB0 BK278.out hb)
               have n11_:=Aside0.mk (zS0 HB.out hb)
               clear HO_243000
               clear HO_247000
               clear HO_256000
               clear HO269
               clear BK227
               clear BK228
               clear BK242
               clear BK246
               clear BK255
               clear BK278
               clear HB
               have HO_243000:=n0_
               have HO_247000:=n1_
               have HO_256000:=n2_
               have HO269:=n3_
               have HO276:=n4_
               have BK227:=n5_
               have BK228:=n6_
               have BK242:=n7_
               have BK246:=n8_
               have BK255:=n9_
               have BK278:=n10_
               have HB:=n11_
               clear n0_ n1_ n2_ n3_ n4_ n5_ n6_ n7_ n8_ n9_ n10_ n11_
               (try clear hb)
               (try clear hb2)
               (try clear hk)
               (try clear hi)
               (try clear ho0)
               refine hK.out _ _ ⟨(blk_cell BK227.out 0).trans rfl,(blk_cell BK228.out 0).trans rfl,(blk_cell BK228.out 1).trans rfl,(blk_cell BK228.out 2).trans rfl,(blk_cell BK228.out 3).trans rfl⟩ (fun hHeld => ?_)
               clear hK K
               refine norm_ (a':=?_) ?_ ?_;rotate_left
               ·show Act.put _ (some 89) _ = _;simp only [Act.put,qA0,qB0,qC0,i64_w,i32_w];rfl
               refine zP0 (i:=5) (N:=some 84) (zF0 11 319) rfl rfl HT_.out ?_
               refine zP0 (i:=6) (N:=some 90) (zF0 11 383) rfl rfl HT_.out ?_
               refine zP0 (i:=7) (N:=some 91) (zF0 11 511) rfl rfl HT_.out ?_
               exact norm_ (by simp only [putAll,Act.put,qA0,qB0,qC0]) (hCont (.slice Ao149 t267.length co149,v275,gb278) _ ⟨hHeld,(by (with_reducible repeat (first | apply Kd.R_alloc | apply Kd.R_drewN | apply Kd.R_drew));exact Kd.R_mono HO269.out (fun _ hk => ⟨hk.2,⟨hk.1.1.1.2,⟨hk.1.1.2,hk.1.2⟩⟩⟩)),(by (with_reducible repeat (first | apply Kd.R_alloc | apply Kd.R_drewN | apply Kd.R_drew));exact Kd.R_mono HO276.out (fun _ hk => ⟨hk.2,⟨hk.1.1.1.2,⟨hk.1.1.2,hk.1.2⟩⟩⟩)),(by (with_reducible repeat (first | apply Kd.R_alloc | apply Kd.R_drewN | apply Kd.R_drew));exact Kd.R_mono HO_243000.out (fun _ hk => ⟨hk.1.2,⟨hk.2,⟨hk.1.1.1,hk.1.1.2⟩⟩⟩)),(by (with_reducible repeat (first | apply Kd.R_alloc | apply Kd.R_drewN | apply Kd.R_drew));exact Kd.R_mono HO_247000.out (fun _ hk => ⟨hk.1.2,⟨hk.2,⟨hk.1.1.1,hk.1.1.2⟩⟩⟩)),(by (with_reducible repeat (first | apply Kd.R_alloc | apply Kd.R_drewN | apply Kd.R_drew));exact Kd.R_mono HO_256000.out (fun _ hk => ⟨hk.1.2,⟨hk.2,⟨hk.1.1.1,hk.1.1.2⟩⟩⟩)),(zK0 BK227.out),(zK0 BK228.out),(zK0 BK242.out),(zK0 BK246.out),(zK0 BK255.out),(zK0 BK278.out),GW278.out,GE278.out,NB227_278.out,NB278_227.out,NB228_278.out,NB278_228.out,NB242_278.out,NB278_242.out,NB246_278.out,NB278_246.out,NB255_278.out,NB278_255.out,(by repeat (first | (with_reducible first | exact HB.out | apply below_alloc | apply pw_below_drewN | apply below_drew1 | refine below_set ?_ GE227.out | refine below_set ?_ GE228.out | refine below_set ?_ GE242.out | refine below_set ?_ GE246.out | refine below_set ?_ GE255.out | refine below_set ?_ GE278.out) | exact HB.out))⟩)
             ·skip
              refine box_step ?hg (N:=14) ?hd (cs:=#[.slice none 0 0]) (t:=30) ?hr ?_;(case hd => rfl);(case hg => rfl);(case hr => first | (go_simp;done) | (go_simp;rfl))
              intro gb278 hg w146 hbox hb
              have n0_:=Aside0.mk (Kd.R_below (zR0 HO_243000.out) hb)
              have n1_:=Aside0.mk (Kd.R_below (zR0 HO_247000.out) hb)
              have n2_:=Aside0.mk (Kd.R_below (zR0 HO_256000.out) hb)
              have n3_:=Aside0.mk (zB0 BK227.out hb)
              have n4_:=Aside0.mk (zB0 BK228.out hb)
              have n5_:=Aside0.mk (zB0 BK242.out hb)
              have n6_:=Aside0.mk (zB0 BK246.out hb)
              have n7_:=Aside0.mk (zB0 BK255.out hb)
              have n8_:=Aside0.mk (zS0 HB.out hb)
              have n9_:=Aside0.mk (hbox)
              have n10_:=Aside0.mk ((by rw [hg];exact (zZ0 HB.out) : w.heap.size ≤ gb278))
              have n11_:=Aside0.mk ((by rw [hg];exact (zZ0 HB.out) : w.heap.size ≤ gb278))
              have n12_:=Aside0.mk ((zL0 hg BK227.out : gb227 ≠ gb278))
              have n13_:=Aside0.mk ((zG0 hg BK227.out : gb278 ≠ gb227))
              have n14_:=Aside0.mk ((zL0 hg BK228.out : gb228 ≠ gb278))
              have n15_:=Aside0.mk ((zG0 hg BK228.out : gb278 ≠ gb228))
              have n16_:=Aside0.mk ((zL0 hg BK242.out : gb242 ≠ gb278))
              have n17_:=Aside0.mk ((zG0 hg BK242.out : gb278 ≠ gb242))
              have n18_:=Aside0.mk ((zL0 hg BK246.out : gb246 ≠ gb278))
              have n19_:=Aside0.mk ((zG0 hg BK246.out : gb278 ≠ gb246))
              have n20_:=Aside0.mk ((zL0 hg BK255.out : gb255 ≠ gb278))
              have n21_:=Aside0.mk ((zG0 hg BK255.out : gb278 ≠ gb255))
              clear HO_243000
              clear HO_247000
              clear HO_256000
              clear BK227
              clear BK228
              clear BK242
              clear BK246
              clear BK255
              clear HB
              have HO_243000:=n0_
              have HO_247000:=n1_
              have HO_256000:=n2_
              have BK227:=n3_
              have BK228:=n4_
              have BK242:=n5_
              have BK246:=n6_
              have BK255:=n7_
              have HB:=n8_
              have BK278:=n9_
              have GW278:=n10_
              have GE278:=n11_
              have NB227_278:=n12_
              have NB278_227:=n13_
              have NB228_278:=n14_
              have NB278_228:=n15_
              have NB242_278:=n16_
              have NB278_242:=n17_
              have NB246_278:=n18_
              have NB278_246:=n19_
              have NB255_278:=n20_
              have NB278_255:=n21_
              clear n0_ n1_ n2_ n3_ n4_ n5_ n6_ n7_ n8_ n9_ n10_ n11_ n12_ n13_ n14_ n15_ n16_ n17_ n18_ n19_ n20_ n21_
              clear hb hbox hg
              refine hK.out _ _ ⟨(blk_cell BK227.out 0).trans rfl,(blk_cell BK228.out 0).trans rfl,(blk_cell BK228.out 1).trans rfl,(blk_cell BK228.out 2).trans rfl,(blk_cell BK228.out 3).trans rfl⟩ (fun hHeld => ?_)
              clear hK K
              refine norm_ (a':=?_) ?_ ?_;rotate_left
              ·show Act.put _ (some 14) _ = _;simp only [Act.put,qA0,qB0,qC0,i64_w,i32_w];rfl
              refine one_ (i:=1) (N:=some 86) (zF0 11 263) rfl rfl (one_of HT_.out (by kernel_rfl)) (by decide) (fun K hK => ?_)
              refine goes_ Try.func16 (by kernel_rfl) rfl #[.agg #[.slice A0_0 l0_0.length c0_0]] (by rfl) rfl rfl zM0 ?_
              with_reducible refine (laws_toDisk.calls kj85 _ _ l0_0 t267 _ ?side1 ?side2 A133.out).mono ?_
              (case side1 => repeat (first | exact (Kd.C_below HR0_0.out HB.out) | (with_reducible refine Kd.C_alloc ?_ _) | (with_reducible refine Kd.C_drewN ?_ _) | (with_reducible refine Kd.C_drew ?_)))
              (case side2 => exact HC0_0.out)
              rintro e w147 ⟨v268,rfl,ho0,hb⟩
              refine ⟨_,rfl,?_⟩
              have n0_:=Aside0.mk (Kd.R_elder' (zR0 HO_243000.out) (Kd.R_base ho0) hb)
              have n1_:=Aside0.mk (Kd.R_elder' (zR0 HO_247000.out) (Kd.R_base ho0) hb)
              have n2_:=Aside0.mk (Kd.R_elder' (zR0 HO_256000.out) (Kd.R_base ho0) hb)
              have n3_:=Aside0.mk (Kd.R_lower (Kd.R_new' (Kd.R_new' (Kd.R_new' ho0 (Kd.R_lt (zR0 HO_243000.out))) (Kd.R_lt (zR0 HO_247000.out))) (Kd.R_lt (zR0 HO_256000.out))) (zZ0 HB.out))
              have n4_:=Aside0.mk (zB0 BK227.out hb)
              have n5_:=Aside0.mk (zB0 BK228.out hb)
              have n6_:=Aside0.mk (zB0 BK242.out hb)
              have n7_:=Aside0.mk (zB0 BK246.out hb)
              have n8_:=Aside0.mk (zB0 BK255.out hb)
              have n9_:=Aside0.mk (zB0 BK278.out hb)
              have n10_:=Aside0.mk (zS0 HB.out hb)
              clear HO_243000
              clear HO_247000
              clear HO_256000
              clear BK227
              clear BK228
              clear BK242
              clear BK246
              clear BK255
              clear BK278
              clear HB
              have HO_243000:=n0_
              have HO_247000:=n1_
              have HO_256000:=n2_
              have HO269:=n3_
              have BK227:=n4_
              have BK228:=n5_
              have BK242:=n6_
              have BK246:=n7_
              have BK255:=n8_
              have BK278:=n9_
              have HB:=n10_
              clear n0_ n1_ n2_ n3_ n4_ n5_ n6_ n7_ n8_ n9_ n10_
              (try clear hb)
              (try clear hb2)
              (try clear hk)
              (try clear hi)
              (try clear ho0)
              refine hK.out _ _ ⟨(blk_cell BK227.out 0).trans rfl,(blk_cell BK228.out 0).trans rfl,(blk_cell BK228.out 1).trans rfl,(blk_cell BK228.out 2).trans rfl,(blk_cell BK228.out 3).trans rfl⟩ (fun hHeld => ?_)
              clear hK K
              refine norm_ (a':=?_) ?_ ?_;rotate_left
              ·show Act.put _ (some 86) _ = _;simp only [Act.put,qA0,qB0,qC0,i64_w,i32_w];rfl
              refine one_ (i:=3) (N:=some 88) (zF0 11 271) rfl rfl (one_of HT_.out (by kernel_rfl)) (by decide) (fun K hK => ?_)
              refine goes_ Try.func37 (by kernel_rfl) rfl #[.agg #[.int .i64 a1_0,.string a1_1,.string a1_2,.string a1_3]] (by rfl) rfl rfl zM0 ?_
              with_reducible refine (laws_toAct.calls a1_0 a1_1 a1_2 a1_3 t270 t271 t272 t273 _ A134.out).mono ?_
              rintro e w148 ⟨rfl,hb⟩
              refine ⟨_,rfl,?_⟩
              have n0_:=Aside0.mk (Kd.R_below (zR0 HO_243000.out) hb)
              have n1_:=Aside0.mk (Kd.R_below (zR0 HO_247000.out) hb)
              have n2_:=Aside0.mk (Kd.R_below (zR0 HO_256000.out) hb)
              have n3_:=Aside0.mk (Kd.R_below (zR0 HO269.out) hb)
              have n4_:=Aside0.mk (zB0 BK227.out hb)
              have n5_:=Aside0.mk (zB0 BK228.out hb)
              have n6_:=Aside0.mk (zB0 BK242.out hb)
              have n7_:=Aside0.mk (zB0 BK246.out hb)
              have n8_:=Aside0.mk (zB0 BK255.out hb)
              have n9_:=Aside0.mk (zB0 BK278.out hb)
              have n10_:=Aside0.mk (zS0 HB.out hb)
              clear HO_243000
              clear HO_247000
              clear HO_256000
              clear HO269
              clear BK227
              clear BK228
              clear BK242
              clear BK246
              clear BK255
              clear BK278
              clear HB
              have HO_243000:=n0_
              have HO_247000:=n1_
              have HO_256000:=n2_
              have HO269:=n3_
              have BK227:=n4_
              have BK228:=n5_
              have BK242:=n6_
              have BK246:=n7_
              have BK255:=n8_
              have BK278:=n9_
              have HB:=n10_
              clear n0_ n1_ n2_ n3_ n4_ n5_ n6_ n7_ n8_ n9_ n10_
              (try clear hb)
              (try clear hb2)
              (try clear hk)
              (try clear hi)
              obtain ⟨Ao149,co149,eo149⟩:=Kd.R_slice HO269.out
              (first | subst eo149 | (injection eo149 with f1_ f2_ f3_;have f4_:=f1_.symm;have f5_:=f3_.symm;clear f1_ f2_ f3_;subst f4_;subst f5_))
              refine hK.out _ _ ⟨(blk_cell BK227.out 0).trans rfl,(blk_cell BK228.out 0).trans rfl,(blk_cell BK228.out 1).trans rfl,(blk_cell BK228.out 2).trans rfl,(blk_cell BK228.out 3).trans rfl⟩ (fun hHeld => ?_)
              clear hK K
              refine norm_ (a':=?_) ?_ ?_;rotate_left
              ·show Act.put _ (some 88) _ = _;simp only [Act.put,qA0,qB0,qC0,i64_w,i32_w];rfl
              refine one_ (i:=4) (N:=some 89) (zF0 11 287) rfl rfl (one_of HT_.out (by kernel_rfl)) (by decide) (fun K hK => ?_)
              refine goes_ Try.func38 (by kernel_rfl) rfl #[.agg #[.slice Ao149 t267.length co149],.agg #[.int .i64 t270,.string t271,.string t272,.string t273]] (by rfl) rfl rfl zM0 ?_
              with_reducible refine (impl_DoAct.calls kj85 _ _ t267 t270 t271 t272 t273 t274 t277 _ ?side1 ?side2 A135.out).mono ?_
              (case side1 => repeat (first | exact (Kd.R_reads' HO269.out).2.2 | (with_reducible refine Kd.C_alloc ?_ _) | (with_reducible refine Kd.C_drewN ?_ _) | (with_reducible refine Kd.C_drew ?_)))
              (case side2 => exact (Kd.R_reads' HO269.out).2.1)
              rintro e w150 ⟨v275,rfl,ho0,hb⟩
              refine ⟨_,rfl,?_⟩
              have n0_:=Aside0.mk (Kd.R_elder' (zR0 HO_243000.out) (Kd.R_base ho0) hb)
              have n1_:=Aside0.mk (Kd.R_elder' (zR0 HO_247000.out) (Kd.R_base ho0) hb)
              have n2_:=Aside0.mk (Kd.R_elder' (zR0 HO_256000.out) (Kd.R_base ho0) hb)
              have n3_:=Aside0.mk (Kd.R_elder' (zR0 HO269.out) (Kd.R_base ho0) hb)
              have n4_:=Aside0.mk (Kd.R_lower (Kd.R_new' (Kd.R_new' (Kd.R_new' (Kd.R_new' ho0 (Kd.R_lt (zR0 HO_243000.out))) (Kd.R_lt (zR0 HO_247000.out))) (Kd.R_lt (zR0 HO_256000.out))) (Kd.R_lt (zR0 HO269.out))) (zZ0 HB.out))
              have n5_:=Aside0.mk (zB0 BK227.out hb)
              have n6_:=Aside0.mk (zB0 BK228.out hb)
              have n7_:=Aside0.mk (zB0 BK242.out hb)
              have n8_:=Aside0.mk (zB0 BK246.out hb)
              have n9_:=Aside0.mk (zB0 BK255.out hb)
              have n10_:=Aside0.mk (zB0 BK278.out hb)
              have n11_:=Aside0.mk (zS0 HB.out hb)
              clear HO_243000
              clear HO_247000
              clear HO_256000
              clear HO269
              clear BK227
              clear BK228
              clear BK242
              clear BK246
              clear BK255
              clear BK278
              clear HB
              have HO_243000:=n0_
              have HO_247000:=n1_
              have HO_256000:=n2_
              have HO269:=n3_
              have HO276:=n4_
              have BK227:=n5_
              have BK228:=n6_
              have BK242:=n7_
              have BK246:=n8_
              have BK255:=n9_
              have BK278:=n10_
              have HB:=n11_
              clear n0_ n1_ n2_ n3_ n4_ n5_ n6_ n7_ n8_ n9_ n10_ n11_
              (try clear hb)
              (try clear hb2)
              (try clear hk)
              (try clear hi)
              (try clear ho0)
              refine hK.out _ _ ⟨(blk_cell BK227.out 0).trans rfl,(blk_cell BK228.out 0).trans rfl,(blk_cell BK228.out 1).trans rfl,(blk_cell BK228.out 2).trans rfl,(blk_cell BK228.out 3).trans rfl⟩ (fun hHeld => ?_)
              clear hK K
              refine norm_ (a':=?_) ?_ ?_;rotate_left
              ·show Act.put _ (some 89) _ = _;simp only [Act.put,qA0,qB0,qC0,i64_w,i32_w];rfl
              refine zP0 (i:=5) (N:=some 84) (zF0 11 319) rfl rfl HT_.out ?_
              refine zP0 (i:=6) (N:=some 90) (zF0 11 383) rfl rfl HT_.out ?_
              refine zP0 (i:=7) (N:=some 91) (zF0 11 511) rfl rfl HT_.out ?_
              exact norm_ (by simp only [putAll,Act.put,qA0,qB0,qC0]) (hCont (.slice Ao149 t267.length co149,v275,gb278) _ ⟨hHeld,(by (with_reducible repeat (first | apply Kd.R_alloc | apply Kd.R_drewN | apply Kd.R_drew));exact Kd.R_mono HO269.out (fun _ hk => ⟨hk.2,⟨hk.1.1.1.2,⟨hk.1.1.2,hk.1.2⟩⟩⟩)),(by (with_reducible repeat (first | apply Kd.R_alloc | apply Kd.R_drewN | apply Kd.R_drew));exact Kd.R_mono HO276.out (fun _ hk => ⟨hk.2,⟨hk.1.1.1.2,⟨hk.1.1.2,hk.1.2⟩⟩⟩)),(by (with_reducible repeat (first | apply Kd.R_alloc | apply Kd.R_drewN | apply Kd.R_drew));exact Kd.R_mono HO_243000.out (fun _ hk => ⟨hk.1.2,⟨hk.2,⟨hk.1.1.1,hk.1.1.2⟩⟩⟩)),(by (with_reducible repeat (first | apply Kd.R_alloc | apply Kd.R_drewN | apply Kd.R_drew));exact Kd.R_mono HO_247000.out (fun _ hk => ⟨hk.1.2,⟨hk.2,⟨hk.1.1.1,hk.1.1.2⟩⟩⟩)),(by (with_reducible repeat (first | apply Kd.R_alloc | apply Kd.R_drewN | apply Kd.R_drew));exact Kd.R_mono HO_256000.out (fun _ hk => ⟨hk.1.2,⟨hk.2,⟨hk.1.1.1,hk.1.1.2⟩⟩⟩)),(zK0 BK227.out),(zK0 BK228.out),(zK0 BK242.out),(zK0 BK246.out),(zK0 BK255.out),(zK0 BK278.out),GW278.out,GE278.out,NB227_278.out,NB278_227.out,NB228_278.out,NB278_228.out,NB242_278.out,NB278_242.out,NB246_278.out,NB278_246.out,NB255_278.out,NB278_255.out,(by repeat (first | (with_reducible first | exact HB.out | apply below_alloc | apply pw_below_drewN | apply below_drew1 | refine below_set ?_ GE227.out | refine below_set ?_ GE228.out | refine below_set ?_ GE242.out | refine below_set ?_ GE246.out | refine below_set ?_ GE255.out | refine below_set ?_ GE278.out) | exact HB.out))⟩)
            rintro ⟨v268,v275,gb278⟩ w151 ⟨hS_,h0_,h1_,h2_,h3_,h4_,h5_,h6_,h7_,h8_,h9_,h10_,h11_,h12_,h13_,h14_,h15_,h16_,h17_,h18_,h19_,h20_,h21_,h22_,h23_⟩
            have n0_ : Aside0 (Kd.R k45 45 w151 w.heap.size (fun k_ => some k_ ≠ (v275 : Value).ownBlock ∧ some k_ ≠ (.slice Ao40 t238.length co40 : Value).ownBlock ∧ some k_ ≠ (.slice Ao46 t262.length co46 : Value).ownBlock ∧ some k_ ≠ (.slice Ao57 t251.length co57 : Value).ownBlock) v268 t267):=⟨h0_⟩
            have n1_ : Aside0 (Kd.R k45 45 w151 w.heap.size (fun k_ => some k_ ≠ (v268 : Value).ownBlock ∧ some k_ ≠ (.slice Ao40 t238.length co40 : Value).ownBlock ∧ some k_ ≠ (.slice Ao46 t262.length co46 : Value).ownBlock ∧ some k_ ≠ (.slice Ao57 t251.length co57 : Value).ownBlock) v275 t274):=⟨h1_⟩
            have n2_ : Aside0 (Kd.R k45 45 w151 w.heap.size (fun k_ => some k_ ≠ (v268 : Value).ownBlock ∧ some k_ ≠ (v275 : Value).ownBlock ∧ some k_ ≠ (.slice Ao46 t262.length co46 : Value).ownBlock ∧ some k_ ≠ (.slice Ao57 t251.length co57 : Value).ownBlock) (.slice Ao40 t238.length co40) t238):=⟨h2_⟩
            have n3_ : Aside0 (Kd.R k45 45 w151 w.heap.size (fun k_ => some k_ ≠ (v268 : Value).ownBlock ∧ some k_ ≠ (v275 : Value).ownBlock ∧ some k_ ≠ (.slice Ao40 t238.length co40 : Value).ownBlock ∧ some k_ ≠ (.slice Ao57 t251.length co57 : Value).ownBlock) (.slice Ao46 t262.length co46) t262):=⟨h3_⟩
            have n4_ : Aside0 (Kd.R k45 45 w151 w.heap.size (fun k_ => some k_ ≠ (v268 : Value).ownBlock ∧ some k_ ≠ (v275 : Value).ownBlock ∧ some k_ ≠ (.slice Ao40 t238.length co40 : Value).ownBlock ∧ some k_ ≠ (.slice Ao46 t262.length co46 : Value).ownBlock) (.slice Ao57 t251.length co57) t265):=⟨h4_⟩
            have n5_ : Aside0 (w151.heap[gb227]? = some (.cells #[.slice A0_0 l0_0.length c0_0] 24 (0,0))):=⟨h5_⟩
            have n6_ : Aside0 (w151.heap[gb228]? = some (.cells #[.int .i64 a1_0,.string a1_1,.string a1_2,.string a1_3] 52 (0,0))):=⟨h6_⟩
            have n7_ : Aside0 (w151.heap[gb242]? = some (.cells #[.slice Ao40 t238.length co40] 30 (0,0))):=⟨h7_⟩
            have n8_ : Aside0 (w151.heap[gb246]? = some (.cells #[.slice Ao46 t262.length co46] 30 (0,0))):=⟨h8_⟩
            have n9_ : Aside0 (w151.heap[gb255]? = some (.cells #[.slice Ao57 t251.length co57] 30 (0,0))):=⟨h9_⟩
            have n10_ : Aside0 (w151.heap[gb278]? = some (.cells #[.slice none 0 0] 30 (0,0))):=⟨h10_⟩
            have n11_ : Aside0 (w.heap.size ≤ gb278):=⟨h11_⟩
            have n12_ : Aside0 (w.heap.size ≤ gb278):=⟨h12_⟩
            have n13_ : Aside0 (gb227 ≠ gb278):=⟨h13_⟩
            have n14_ : Aside0 (gb278 ≠ gb227):=⟨h14_⟩
            have n15_ : Aside0 (gb228 ≠ gb278):=⟨h15_⟩
            have n16_ : Aside0 (gb278 ≠ gb228):=⟨h16_⟩
            have n17_ : Aside0 (gb242 ≠ gb278):=⟨h17_⟩
            have n18_ : Aside0 (gb278 ≠ gb242):=⟨h18_⟩
            have n19_ : Aside0 (gb246 ≠ gb278):=⟨h19_⟩
            have n20_ : Aside0 (gb278 ≠ gb246):=⟨h20_⟩
            have n21_ : Aside0 (gb255 ≠ gb278):=⟨h21_⟩
            have n22_ : Aside0 (gb278 ≠ gb255):=⟨h22_⟩
            have n23_ : Aside0 (Below w.heap.size w w151):=⟨h23_⟩
            clear HO_243000
            clear HO_247000
            clear HO_256000
            clear BK227
            clear BK228
            clear BK242
            clear BK246
            clear BK255
            clear HB
            clear h0_ h1_ h2_ h3_ h4_ h5_ h6_ h7_ h8_ h9_ h10_ h11_ h12_ h13_ h14_ h15_ h16_ h17_ h18_ h19_ h20_ h21_ h22_ h23_
            have HO269:=n0_
            have HO276:=n1_
            have HO_243000:=n2_
            have HO_247000:=n3_
            have HO_256000:=n4_
            have BK227:=n5_
            have BK228:=n6_
            have BK242:=n7_
            have BK246:=n8_
            have BK255:=n9_
            have BK278:=n10_
            have GW278:=n11_
            have GE278:=n12_
            have NB227_278:=n13_
            have NB278_227:=n14_
            have NB228_278:=n15_
            have NB278_228:=n16_
            have NB242_278:=n17_
            have NB278_242:=n18_
            have NB246_278:=n19_
            have NB278_246:=n20_
            have NB255_278:=n21_
            have NB278_255:=n22_
            have HB:=n23_
            clear n0_ n1_ n2_ n3_ n4_ n5_ n6_ n7_ n8_ n9_ n10_ n11_ n12_ n13_ n14_ n15_ n16_ n17_ n18_ n19_ n20_ n21_ n22_ n23_
            have hHeld : w151.cell? ⟨gb227,0,none⟩ = some (.slice A0_0 l0_0.length c0_0) ∧ w151.cell? ⟨gb228,0,none⟩ = some (.int .i64 a1_0) ∧ w151.cell? ⟨gb228,1,none⟩ = some (.string a1_1) ∧ w151.cell? ⟨gb228,2,none⟩ = some (.string a1_2) ∧ w151.cell? ⟨gb228,3,none⟩ = some (.string a1_3):=hS_
            obtain ⟨Ao152,co152,eo152⟩:=Kd.R_slice HO276.out
            (first | subst eo152 | (injection eo152 with f1_ f2_ f3_;have f4_:=f1_.symm;have f5_:=f3_.symm;clear f1_ f2_ f3_;subst f4_;subst f5_))
            refine norm_ (a':=?_) ?_ ?_;rotate_left
            ·simp only [putAll,Act.put,qA0,qB0,qC0]
             rfl
            refine one_ (i:=9) (N:=none) (zF0 11 1023) rfl rfl (one_of HT_.out (by kernel_rfl)) (by decide) (fun K hK => ?_)
            have hs153 : w151.cell? ⟨gb278,0,none⟩ = some (.slice none 0 0):=(blk_cell BK278.out 0).trans rfl
            have hfs153:=blk_frozen BK278.out 0
            have hns153_0:=NB227_278.out
            have hns153_1:=NB228_278.out
            have hns153_2:=NB242_278.out
            have hns153_3:=NB246_278.out
            have hns153_4:=NB255_278.out
            have hms153_0:=NB278_227.out
            have hms153_1:=NB278_228.out
            have hms153_2:=NB278_242.out
            have hms153_3:=NB278_246.out
            have hms153_4:=NB278_255.out
            refine skip_ (w1:=?_) (by rfl) rfl ?_ ?_;rotate_left
            ·go_simp
             rfl
            refine hK.out _ _ ⟨((cell_far (p:=⟨gb278,_,none⟩) NB227_278.out _).trans (hHeld.1)),((cell_far (p:=⟨gb278,_,none⟩) NB228_278.out _).trans (hHeld.2.1)),((cell_far (p:=⟨gb278,_,none⟩) NB228_278.out _).trans (hHeld.2.2.1)),((cell_far (p:=⟨gb278,_,none⟩) NB228_278.out _).trans (hHeld.2.2.2.1)),((cell_far (p:=⟨gb278,_,none⟩) NB228_278.out _).trans (hHeld.2.2.2.2))⟩ (fun hHeld => ?_)
            clear hK K
            refine zP0 (i:=10) (N:=some 15) (zF0 11 2047) rfl rfl HT_.out ?_
            refine done_ (done_of HT_.out (by kernel_rfl)) ?_
            go_upto_region 28 with (fail)
            go_cut [100] (fun v100 wc => ∃ (kq : Nat) (x100_135 : Bool),v100 = .bool x100_135 ∧ Aside0 (laws_FnExactDoAct.j2 kq t264 x100_135 t265 = some r) ∧ Aside0 (kq ≤ kj85) ∧ Aside0 (Kd.R k45 45 wc w.heap.size (fun k_ => some k_ ≠ ((.slice Ao46 t262.length co46) : Value).ownBlock ∧ some k_ ≠ ((.slice Ao57 t251.length co57) : Value).ownBlock ∧ some k_ ≠ ((.slice Ao152 t274.length co152) : Value).ownBlock) (.slice Ao40 t238.length co40) t238) ∧ Aside0 (Kd.R k45 45 wc w.heap.size (fun k_ => some k_ ≠ ((.slice Ao40 t238.length co40) : Value).ownBlock ∧ some k_ ≠ ((.slice Ao57 t251.length co57) : Value).ownBlock ∧ some k_ ≠ ((.slice Ao152 t274.length co152) : Value).ownBlock) (.slice Ao46 t262.length co46) t262) ∧ Aside0 (Kd.R k45 45 wc w.heap.size (fun k_ => some k_ ≠ ((.slice Ao40 t238.length co40) : Value).ownBlock ∧ some k_ ≠ ((.slice Ao46 t262.length co46) : Value).ownBlock ∧ some k_ ≠ ((.slice Ao152 t274.length co152) : Value).ownBlock) (.slice Ao57 t251.length co57) t265) ∧ Aside0 (Kd.R k45 45 wc w.heap.size (fun k_ => some k_ ≠ ((.slice Ao40 t238.length co40) : Value).ownBlock ∧ some k_ ≠ ((.slice Ao46 t262.length co46) : Value).ownBlock ∧ some k_ ≠ ((.slice Ao57 t251.length co57) : Value).ownBlock) (.slice Ao152 t274.length co152) t274) ∧ Aside0 (wc.heap[gb227]? = some (.cells #[(.slice A0_0 l0_0.length c0_0)] 24 (0,0))) ∧ Aside0 (wc.heap[gb228]? = some (.cells #[.int .i64 a1_0,.string a1_1,.string a1_2,.string a1_3] 52 (0,0))) ∧ Aside0 (wc.heap[gb242]? = some (.cells #[(.slice Ao40 t238.length co40)] 30 (0,0))) ∧ Aside0 (wc.heap[gb246]? = some (.cells #[(.slice Ao46 t262.length co46)] 30 (0,0))) ∧ Aside0 (wc.heap[gb255]? = some (.cells #[(.slice Ao57 t251.length co57)] 30 (0,0))) ∧ Aside0 (wc.heap[gb278]? = some (.cells #[(.slice Ao152 t274.length co152)] 30 (0,0))) ∧ Aside0 (Below w.heap.size w wc))
            case first =>
             have H:=HC136.out
             clear HC136
             replace H:=Option.bind_eq_some_iff.mp H
             obtain ⟨t279,A1540,H⟩:=H
             replace H : (if t279 = true then (laws_FnExactDoAct.j2 kj85 t264 (t277 != t241) t265) else (laws_FnExactDoAct.j2 kj85 t264 true t265)) = some r:=H
             have A154:=Aside0.mk A1540
             clear A1540
             by_cases c155 : t279 = true
             ·subst c155
              have H1 : (laws_FnExactDoAct.j2 kj85 t264 (t277 != t241) t265) = some r:=by rw [if_pos rfl] at H;exact H
              clear H
              have H:=H1
              clear H1
              have H':=Aside0.mk H
              clear H
              have hnb156:=NB278_227.out
              have hnc156:=NB227_278.out
              have hnb157:=NB278_228.out
              have hnc157:=NB228_278.out
              have hnb158:=NB278_242.out
              have hnc158:=NB242_278.out
              have hnb159:=NB278_246.out
              have hnc159:=NB246_278.out
              have hnb160:=NB278_255.out
              have hnc160:=NB255_278.out
              have hcz161_0 : w151.cell? ⟨gb278,0,none⟩ = some (.slice none 0 0):=(blk_cell BK278.out 0).trans rfl
              have hfz161_0:=blk_frozen BK278.out 0
              have hnb162:=NB242_227.out
              have hnc162:=NB227_242.out
              have hnb163:=NB242_228.out
              have hnc163:=NB228_242.out
              have hnb164:=NB242_246.out
              have hnc164:=NB246_242.out
              have hnb165:=NB242_255.out
              have hnc165:=NB255_242.out
              have hcz166_0 : w151.cell? ⟨gb242,0,none⟩ = some (.slice Ao40 t238.length co40):=(blk_cell BK242.out 0).trans rfl
              have hfz166_0:=blk_frozen BK242.out 0
              go_wp2_with (first | ((with_reducible refine gate_callee (f:=18) rfl ?_);refine goesL_ (some 94) rfl rfl Try.func18 (by kernel_rfl) rfl #[.agg #[.slice Ao152 t274.length co152],.agg #[.slice Ao40 t238.length co40]] rfl zM0 ?_;(with_reducible refine (laws_eqDisk.calls kj85 _ _ t274 _ _ t238 true _ ?side1 ?side2 ?side3 ?side4 A154.out).mono ?_);(case side1 => refine (Kd.R_reads' (e:=45) (base:=w.heap.size) (ok:=fun k_ => (some k_ ≠ (v268 : Value).ownBlock ∧ (some k_ ≠ (.slice Ao40 t238.length co40 : Value).ownBlock ∧ (some k_ ≠ (.slice Ao46 t262.length co46 : Value).ownBlock ∧ some k_ ≠ (.slice Ao57 t251.length co57 : Value).ownBlock)))) (n:=t274.length) (c:=co152) ?_).2.2;exact (by (with_reducible repeat (first | apply Kd.R_alloc | apply Kd.R_drewN | apply Kd.R_drew));exact (Kd.R_mono (Kd.R_far (p:=⟨gb278,0,none⟩) (Kd.R_types HO276.out BK278.out (by decide)) (fun _ hk => hk.2) (.slice Ao152 t274.length co152)) (fun _ h_ => h_.1))));(case side2 => exact (Kd.R_reads' HO276.out).2.1);(case side3 => refine (Kd.R_reads' (e:=45) (base:=w.heap.size) (ok:=fun k_ => (some k_ ≠ (v268 : Value).ownBlock ∧ (some k_ ≠ (.slice Ao152 t274.length co152 : Value).ownBlock ∧ (some k_ ≠ (.slice Ao46 t262.length co46 : Value).ownBlock ∧ some k_ ≠ (.slice Ao57 t251.length co57 : Value).ownBlock)))) (n:=t238.length) (c:=co40) ?_).2.2;exact (by (with_reducible repeat (first | apply Kd.R_alloc | apply Kd.R_drewN | apply Kd.R_drew));exact (Kd.R_mono (Kd.R_far (p:=⟨gb278,0,none⟩) (Kd.R_types HO_243000.out BK278.out (by decide)) (fun _ hk => hk.2) (.slice Ao152 t274.length co152)) (fun _ h_ => h_.1))));(case side4 => exact (Kd.R_reads' HO_243000.out).2.1);rintro e w167 ⟨rfl,hb⟩;refine ⟨_,rfl,?_⟩;have n0_:=Aside0.mk (Kd.R_below (by (with_reducible repeat (first | apply Kd.R_alloc | apply Kd.R_drewN | apply Kd.R_drew));exact (Kd.R_mono (Kd.R_far (p:=⟨gb278,0,none⟩) (Kd.R_types HO_243000.out BK278.out (by decide)) (fun _ hk => hk.2) (.slice Ao152 t274.length co152)) (fun _ h_ => h_.1))) hb);have n1_:=Aside0.mk (Kd.R_below (by (with_reducible repeat (first | apply Kd.R_alloc | apply Kd.R_drewN | apply Kd.R_drew));exact (Kd.R_mono (Kd.R_far (p:=⟨gb278,0,none⟩) (Kd.R_types HO_247000.out BK278.out (by decide)) (fun _ hk => hk.2) (.slice Ao152 t274.length co152)) (fun _ h_ => h_.1))) hb);have n2_:=Aside0.mk (Kd.R_below (by (with_reducible repeat (first | apply Kd.R_alloc | apply Kd.R_drewN | apply Kd.R_drew));exact (Kd.R_mono (Kd.R_far (p:=⟨gb278,0,none⟩) (Kd.R_types HO_256000.out BK278.out (by decide)) (fun _ hk => hk.2) (.slice Ao152 t274.length co152)) (fun _ h_ => h_.1))) hb);have n3_:=Aside0.mk (Kd.R_below (by (with_reducible repeat (first | apply Kd.R_alloc | apply Kd.R_drewN | apply Kd.R_drew));exact (Kd.R_mono (Kd.R_far (p:=⟨gb278,0,none⟩) (Kd.R_types HO269.out BK278.out (by decide)) (fun _ hk => hk.2) (.slice Ao152 t274.length co152)) (fun _ h_ => h_.1))) hb);have n4_:=Aside0.mk (Kd.R_below (by (with_reducible repeat (first | apply Kd.R_alloc | apply Kd.R_drewN | apply Kd.R_drew));exact (Kd.R_mono (Kd.R_far (p:=⟨gb278,0,none⟩) (Kd.R_types HO276.out BK278.out (by decide)) (fun _ hk => hk.2) (.slice Ao152 t274.length co152)) (fun _ h_ => h_.1))) hb);have n5_:=Aside0.mk (blk_below (g:=gb227) (o:=.cells #[.slice A0_0 l0_0.length c0_0] 24 (0,0)) (by (with_reducible repeat (first | refine blk_drewN ?_ _ | refine blk_drew ?_ | refine blk_alloc ?_ _));refine blk_far ?_ NB227_278.out _;(with_reducible repeat (first | refine blk_drewN ?_ _ | refine blk_drew ?_ | refine blk_alloc ?_ _));exact BK227.out) hb);have n6_:=Aside0.mk (blk_below (g:=gb228) (o:=.cells #[.int .i64 a1_0,.string a1_1,.string a1_2,.string a1_3] 52 (0,0)) (by (with_reducible repeat (first | refine blk_drewN ?_ _ | refine blk_drew ?_ | refine blk_alloc ?_ _));refine blk_far ?_ NB228_278.out _;(with_reducible repeat (first | refine blk_drewN ?_ _ | refine blk_drew ?_ | refine blk_alloc ?_ _));exact BK228.out) hb);have n7_:=Aside0.mk (blk_below (g:=gb242) (o:=.cells #[.slice Ao40 t238.length co40] 30 (0,0)) (by (with_reducible repeat (first | refine blk_drewN ?_ _ | refine blk_drew ?_ | refine blk_alloc ?_ _));refine blk_far ?_ NB242_278.out _;(with_reducible repeat (first | refine blk_drewN ?_ _ | refine blk_drew ?_ | refine blk_alloc ?_ _));exact BK242.out) hb);have n8_:=Aside0.mk (blk_below (g:=gb246) (o:=.cells #[.slice Ao46 t262.length co46] 30 (0,0)) (by (with_reducible repeat (first | refine blk_drewN ?_ _ | refine blk_drew ?_ | refine blk_alloc ?_ _));refine blk_far ?_ NB246_278.out _;(with_reducible repeat (first | refine blk_drewN ?_ _ | refine blk_drew ?_ | refine blk_alloc ?_ _));exact BK246.out) hb);have n9_:=Aside0.mk (blk_below (g:=gb255) (o:=.cells #[.slice Ao57 t251.length co57] 30 (0,0)) (by (with_reducible repeat (first | refine blk_drewN ?_ _ | refine blk_drew ?_ | refine blk_alloc ?_ _));refine blk_far ?_ NB255_278.out _;(with_reducible repeat (first | refine blk_drewN ?_ _ | refine blk_drew ?_ | refine blk_alloc ?_ _));exact BK255.out) hb);have n10_:=Aside0.mk (blk_below (g:=gb278) (o:=.cells #[.slice Ao152 t274.length co152] 30 (0,0)) (by (with_reducible repeat (first | refine blk_drewN ?_ _ | refine blk_drew ?_ | refine blk_alloc ?_ _));refine blk_put (cs:=#[.slice none 0 0]) ?_ 0 _ rfl;(with_reducible repeat (first | refine blk_drewN ?_ _ | refine blk_drew ?_ | refine blk_alloc ?_ _));exact BK278.out) hb);have n11_:=Aside0.mk (zS0 HB.out hb);clear HO_243000;clear HO_247000;clear HO_256000;clear HO269;clear HO276;clear BK227;clear BK228;clear BK242;clear BK246;clear BK255;clear BK278;clear HB;have HO_243000:=n0_;have HO_247000:=n1_;have HO_256000:=n2_;have HO269:=n3_;have HO276:=n4_;have BK227:=n5_;have BK228:=n6_;have BK242:=n7_;have BK246:=n8_;have BK255:=n9_;have BK278:=n10_;have HB:=n11_;clear n0_ n1_ n2_ n3_ n4_ n5_ n6_ n7_ n8_ n9_ n10_ n11_;(try clear hb);(try clear hb2);(try clear hk);(try clear hi)))
              go_meet
              case rel => exact ⟨_,((t277 != t241)),(by first | rfl | (simp;done) | (simp [*];done)),H',⟨by have:=HJ24.out;have:=HJ85.out;first | omega | exact Nat.le_refl _⟩,⟨by (try simp only [hl247000_85]);(with_reducible repeat (first | apply Kd.R_alloc | apply Kd.R_drewN | apply Kd.R_drew));exact Kd.R_mono HO_243000.out (fun _ hk => ⟨hk.2.2.1,⟨hk.2.2.2,hk.2.1⟩⟩)⟩,⟨by (try simp only [hl247000_85]);(with_reducible repeat (first | apply Kd.R_alloc | apply Kd.R_drewN | apply Kd.R_drew));exact Kd.R_mono HO_247000.out (fun _ hk => ⟨hk.2.2.1,⟨hk.2.2.2,hk.2.1⟩⟩)⟩,⟨by (try simp only [hl247000_85]);(with_reducible repeat (first | apply Kd.R_alloc | apply Kd.R_drewN | apply Kd.R_drew));exact Kd.R_mono HO_256000.out (fun _ hk => ⟨hk.2.2.1,⟨hk.2.2.2,hk.2.1⟩⟩)⟩,⟨by (try simp only [hl247000_85]);(with_reducible repeat (first | apply Kd.R_alloc | apply Kd.R_drewN | apply Kd.R_drew));exact Kd.R_mono HO276.out (fun _ hk => ⟨hk.2.1,⟨hk.2.2.1,hk.2.2.2⟩⟩)⟩,⟨by (try simp only [hl247000_85]);(with_reducible repeat (first | refine blk_drewN ?_ _ | refine blk_drew ?_ | refine blk_alloc ?_ _));exact BK227.out⟩,⟨by (try simp only [hl247000_85]);(with_reducible repeat (first | refine blk_drewN ?_ _ | refine blk_drew ?_ | refine blk_alloc ?_ _));exact BK228.out⟩,⟨by (try simp only [hl247000_85]);(with_reducible repeat (first | refine blk_drewN ?_ _ | refine blk_drew ?_ | refine blk_alloc ?_ _));exact BK242.out⟩,⟨by (try simp only [hl247000_85]);(with_reducible repeat (first | refine blk_drewN ?_ _ | refine blk_drew ?_ | refine blk_alloc ?_ _));exact BK246.out⟩,⟨by (try simp only [hl247000_85]);(with_reducible repeat (first | refine blk_drewN ?_ _ | refine blk_drew ?_ | refine blk_alloc ?_ _));exact BK255.out⟩,⟨by (try simp only [hl247000_85]);(with_reducible repeat (first | refine blk_drewN ?_ _ | refine blk_drew ?_ | refine blk_alloc ?_ _));exact BK278.out⟩,⟨by repeat (first | (with_reducible first | exact HB.out | apply below_alloc | apply pw_below_drewN | apply below_drew1 | refine below_set ?_ GE227.out | refine below_set ?_ GE228.out | refine below_set ?_ GE242.out | refine below_set ?_ GE246.out | refine below_set ?_ GE255.out | refine below_set ?_ GE278.out) | exact HB.out)⟩⟩
             ·replace c155:=Bool.eq_false_iff.mpr c155
              subst c155
              have H1 : (laws_FnExactDoAct.j2 kj85 t264 true t265) = some r:=by rw [if_neg (show ¬ (false = true) by decide)] at H;exact H
              exact absurd (H1.trans (congrArg some hrt)) (by first | simp | (cases kj85 <;> simp [laws_FnExactDoAct.j0,laws_FnExactDoAct.j1,laws_FnExactDoAct.j2]) | (cases kj24 <;> simp [laws_FnExactDoAct.j0,laws_FnExactDoAct.j1,laws_FnExactDoAct.j2]) | (cases k <;> simp [laws_FnExactDoAct.j0,laws_FnExactDoAct.j1,laws_FnExactDoAct.j2]))
            case rest =>
             clear HC136
             try clear c1
             try clear p2
             try clear c3
             try clear c15
             try clear c16
             try clear c17
             try clear c18
             try clear c37
             try clear c38
             try clear c155
             try clear c156
             try clear c157
             try clear c158
             try clear c159
             try clear c160
             try clear c162
             try clear c163
             try clear c164
             try clear c165
             try clear c168
             try clear c169
             try clear c170
             try clear c171
             try clear c172
             try clear c174
             try clear c175
             try clear c176
             try clear c177
             try clear hcz161_0
             try clear hcz166_0
             try clear hcz173_0
             try clear hcz178_0
             try clear hfz161_0
             try clear hfz166_0
             try clear hfz173_0
             try clear hfz178_0
             obtain ⟨kq,x100_135,rfl,HA,HJ135,HO_243000,HO_247000,HO_256000,HO_279000,BK227,BK228,BK242,BK246,BK255,BK278,HB⟩:=hcut
             have hl256000_135:=(Kd.R_reads' HO_256000.out).1
             rw [hl256000_135] at HO_256000
             (try simp only [hl256000_135])
             (try simp only [hl256000_135] at BK227)
             (try simp only [hl256000_135] at BK228)
             (try simp only [hl256000_135] at BK242)
             (try simp only [hl256000_135] at BK246)
             (try simp only [hl256000_135] at BK255)
             (try simp only [hl256000_135] at BK278)
             (try simp only [hl256000_135] at HO_243000)
             (try simp only [hl256000_135] at HO_247000)
             (try simp only [hl256000_135] at HO_279000)
             cases kq with
             | zero => exact absurd HA.out (by simp [laws_FnExactDoAct.j2])
             | succ kj135 =>
              have H:=HA.out
              clear HA
              simp only [laws_FnExactDoAct.j2] at H
              by_cases c180 : x100_135 = true
              ·subst c180
               have H1 : (some false) = some r:=by rw [if_pos rfl] at H;exact H
               exact absurd (H1.trans (congrArg some hrt)) (by first | simp | (cases kj135 <;> simp [laws_FnExactDoAct.j0,laws_FnExactDoAct.j1,laws_FnExactDoAct.j2]) | (cases kj85 <;> simp [laws_FnExactDoAct.j0,laws_FnExactDoAct.j1,laws_FnExactDoAct.j2]) | (cases kj24 <;> simp [laws_FnExactDoAct.j0,laws_FnExactDoAct.j1,laws_FnExactDoAct.j2]) | (cases k <;> simp [laws_FnExactDoAct.j0,laws_FnExactDoAct.j1,laws_FnExactDoAct.j2]))
              ·replace c180:=Bool.eq_false_iff.mpr c180
               subst c180
               have H1 : ((laws_heldDisk.f kj135 t265 1).bind fun t280 => (if t280 < 0 then (some false) else (if t280 = t264 then (some true) else (some false)))) = some r:=by rw [if_neg (show ¬ (false = true) by decide)] at H;exact H
               clear H
               have H:=H1
               clear H1
               replace H:=Option.bind_eq_some_iff.mp H
               obtain ⟨t280,A1810,H⟩:=H
               replace H : (if t280 < 0 then (some false) else (if t280 = t264 then (some true) else (some false))) = some r:=H
               have A181:=Aside0.mk A1810
               clear A1810
               by_cases c182 : t280 < 0
               ·rw [if_pos c182] at H
                exact absurd (H.trans (congrArg some hrt)) (by first | simp | (cases kj135 <;> simp [laws_FnExactDoAct.j0,laws_FnExactDoAct.j1,laws_FnExactDoAct.j2]) | (cases kj85 <;> simp [laws_FnExactDoAct.j0,laws_FnExactDoAct.j1,laws_FnExactDoAct.j2]) | (cases kj24 <;> simp [laws_FnExactDoAct.j0,laws_FnExactDoAct.j1,laws_FnExactDoAct.j2]) | (cases k <;> simp [laws_FnExactDoAct.j0,laws_FnExactDoAct.j1,laws_FnExactDoAct.j2]))
               ·rw [if_neg c182] at H
                have c182b0 : decide (t280 < 0) = false:=decide_eq_false c182
                clear c182
                by_cases c190 : t280 = t264
                ·rw [if_pos c190] at H
                 have c190b0 : (t280 == t264) = true:=beq_iff_eq.mpr c190
                 have c190b1 : (t280 != t264) = false:=bne_eq_false_iff_eq.mpr c190
                 clear c190
                 obtain rfl:=Option.some.inj H
                 have hnb191:=NB255_227.out
                 have hnc191:=NB227_255.out
                 have hnb192:=NB255_228.out
                 have hnc192:=NB228_255.out
                 have hnb193:=NB255_242.out
                 have hnc193:=NB242_255.out
                 have hnb194:=NB255_246.out
                 have hnc194:=NB246_255.out
                 have hnb195:=NB255_278.out
                 have hnc195:=NB278_255.out
                 have hcz196_0 : wc.cell? ⟨gb255,0,none⟩ = some (.slice Ao57 t265.length co57):=(blk_cell BK255.out 0).trans rfl
                 have hfz196_0:=blk_frozen BK255.out 0
                 go_wp2_with (first | ((with_reducible refine gate_callee (f:=34) rfl ?_);refine goesL_ (some 103) rfl rfl Try.func34 (by kernel_rfl) rfl #[.agg #[.slice Ao57 t265.length co57],.int .i64 1] rfl zM0 ?_;(with_reducible refine (laws_heldDisk.calls kj135 _ _ t265 1 t280 _ ?side1 ?side2 A181.out).mono ?_);(case side1 => repeat (first | exact (Kd.R_reads' HO_256000.out).2.2 | (with_reducible refine Kd.C_alloc ?_ _) | (with_reducible refine Kd.C_drewN ?_ _) | (with_reducible refine Kd.C_drew ?_)));(case side2 => exact (Kd.R_reads' HO_256000.out).2.1);rintro e w197 ⟨rfl,hb⟩;refine ⟨_,rfl,?_⟩;have n0_:=Aside0.mk (Kd.R_below (zR0 HO_243000.out) hb);have n1_:=Aside0.mk (Kd.R_below (zR0 HO_247000.out) hb);have n2_:=Aside0.mk (Kd.R_below (zR0 HO_256000.out) hb);have n3_:=Aside0.mk (Kd.R_below (zR0 HO_279000.out) hb);have n4_:=Aside0.mk (zB0 BK227.out hb);have n5_:=Aside0.mk (zB0 BK228.out hb);have n6_:=Aside0.mk (zB0 BK242.out hb);have n7_:=Aside0.mk (zB0 BK246.out hb);have n8_:=Aside0.mk (zB0 BK255.out hb);have n9_:=Aside0.mk (zB0 BK278.out hb);have n10_:=Aside0.mk (zS0 HB.out hb);clear HO_243000;clear HO_247000;clear HO_256000;clear HO_279000;clear BK227;clear BK228;clear BK242;clear BK246;clear BK255;clear BK278;clear HB;have HO_243000:=n0_;have HO_247000:=n1_;have HO_256000:=n2_;have HO_279000:=n3_;have BK227:=n4_;have BK228:=n5_;have BK242:=n6_;have BK246:=n7_;have BK255:=n8_;have BK278:=n9_;have HB:=n10_;clear n0_ n1_ n2_ n3_ n4_ n5_ n6_ n7_ n8_ n9_ n10_;(try clear hb);(try clear hb2);(try clear hk);(try clear hi)))
                 go_ret
                 exact ⟨by first | rfl | (simp [errW_none,errW_some] <;> rfl) | (simp [*,errW_none,errW_some] <;> rfl),by repeat (first | (with_reducible first | exact HB.out | apply below_alloc | apply pw_below_drewN | apply below_drew1 | refine below_set ?_ GE227.out | refine below_set ?_ GE228.out | refine below_set ?_ GE242.out | refine below_set ?_ GE246.out | refine below_set ?_ GE255.out | refine below_set ?_ GE278.out) | exact HB.out)⟩
                ·rw [if_neg c190] at H
                 have c190b0 : (t280 == t264) = false:=beq_eq_false_iff_ne.mpr c190
                 have c190b1 : (t280 != t264) = true:=bne_iff_ne.mpr c190
                 obtain rfl:=Option.some.inj H
                 have hnb198:=NB255_227.out
                 have hnc198:=NB227_255.out
                 have hnb199:=NB255_228.out
                 have hnc199:=NB228_255.out
                 have hnb200:=NB255_242.out
                 have hnc200:=NB242_255.out
                 have hnb201:=NB255_246.out
                 have hnc201:=NB246_255.out
                 have hnb202:=NB255_278.out
                 have hnc202:=NB278_255.out
                 have hcz203_0 : wc.cell? ⟨gb255,0,none⟩ = some (.slice Ao57 t265.length co57):=(blk_cell BK255.out 0).trans rfl
                 have hfz203_0:=blk_frozen BK255.out 0
                 go_wp2_with (first | ((with_reducible refine gate_callee (f:=34) rfl ?_);refine goesL_ (some 103) rfl rfl Try.func34 (by kernel_rfl) rfl #[.agg #[.slice Ao57 t265.length co57],.int .i64 1] rfl zM0 ?_;(with_reducible refine (laws_heldDisk.calls kj135 _ _ t265 1 t280 _ ?side1 ?side2 A181.out).mono ?_);(case side1 => repeat (first | exact (Kd.R_reads' HO_256000.out).2.2 | (with_reducible refine Kd.C_alloc ?_ _) | (with_reducible refine Kd.C_drewN ?_ _) | (with_reducible refine Kd.C_drew ?_)));(case side2 => exact (Kd.R_reads' HO_256000.out).2.1);rintro e w204 ⟨rfl,hb⟩;refine ⟨_,rfl,?_⟩;have n0_:=Aside0.mk (Kd.R_below (zR0 HO_243000.out) hb);have n1_:=Aside0.mk (Kd.R_below (zR0 HO_247000.out) hb);have n2_:=Aside0.mk (Kd.R_below (zR0 HO_256000.out) hb);have n3_:=Aside0.mk (Kd.R_below (zR0 HO_279000.out) hb);have n4_:=Aside0.mk (zB0 BK227.out hb);have n5_:=Aside0.mk (zB0 BK228.out hb);have n6_:=Aside0.mk (zB0 BK242.out hb);have n7_:=Aside0.mk (zB0 BK246.out hb);have n8_:=Aside0.mk (zB0 BK255.out hb);have n9_:=Aside0.mk (zB0 BK278.out hb);have n10_:=Aside0.mk (zS0 HB.out hb);clear HO_243000;clear HO_247000;clear HO_256000;clear HO_279000;clear BK227;clear BK228;clear BK242;clear BK246;clear BK255;clear BK278;clear HB;have HO_243000:=n0_;have HO_247000:=n1_;have HO_256000:=n2_;have HO_279000:=n3_;have BK227:=n4_;have BK228:=n5_;have BK242:=n6_;have BK246:=n7_;have BK255:=n8_;have BK278:=n9_;have HB:=n10_;clear n0_ n1_ n2_ n3_ n4_ n5_ n6_ n7_ n8_ n9_ n10_;(try clear hb);(try clear hb2);(try clear hk);(try clear hi)))
                 go_ret
                 exact ⟨by first | rfl | (simp [errW_none,errW_some] <;> rfl) | (simp [*,errW_none,errW_some] <;> rfl),by repeat (first | (with_reducible first | exact HB.out | apply below_alloc | apply pw_below_drewN | apply below_drew1 | refine below_set ?_ GE227.out | refine below_set ?_ GE228.out | refine below_set ?_ GE242.out | refine below_set ?_ GE246.out | refine below_set ?_ GE255.out | refine below_set ?_ GE278.out) | exact HB.out)⟩
           ·rw [if_neg c132] at H
            have c132b0 : (t266 == t264) = false:=beq_eq_false_iff_ne.mpr c132
            have c132b1 : (t266 != t264) = true:=bne_iff_ne.mpr c132
            obtain rfl:=Option.some.inj H
            have hnb205:=NB255_227.out
            have hnc205:=NB227_255.out
            have hnb206:=NB255_228.out
            have hnc206:=NB228_255.out
            have hnb207:=NB255_242.out
            have hnc207:=NB242_255.out
            have hnb208:=NB255_246.out
            have hnc208:=NB246_255.out
            have hcz209_0 : wc.cell? ⟨gb255,0,none⟩ = some (.slice Ao57 t251.length co57):=(blk_cell BK255.out 0).trans rfl
            have hfz209_0:=blk_frozen BK255.out 0
            go_wp2_with (first | ((with_reducible refine gate_callee (f:=32) rfl ?_);refine goesL_ (some 75) rfl rfl Try.func32 (by kernel_rfl) rfl #[.agg #[.slice Ao57 t251.length co57],.int .i64 1] rfl zM0 ?_;(with_reducible refine (laws_markDisk.calls kj85 (fun k_ => some k_ = (.slice Ao57 t251.length co57 : Value).ownBlock) (.slice Ao57 t251.length co57) t251 1 t264 t265 w _ ?side1 ?side2 A121.out).mono ?_);(case side1 => repeat (first | (with_reducible first | exact HB.out | apply below_alloc | apply pw_below_drewN | apply below_drew1 | refine below_set ?_ GE227.out | refine below_set ?_ GE228.out | refine below_set ?_ GE242.out | refine below_set ?_ GE246.out | refine below_set ?_ GE255.out) | exact HB.out));(case side2 => exact Kd.R_tight rfl HO_256000.out);rintro e w210 ⟨rfl,hy0,hb,hkp⟩;refine ⟨_,rfl,?_⟩;have n0_:=Aside0.mk (Kd.R_mono (ok':=fun k_ => some k_ ≠ (.slice Ao46 t262.length co46 : Value).ownBlock ∧ some k_ ≠ (.slice Ao57 t251.length co57 : Value).ownBlock) (Kd.R_keptB (HO_243000.out) hkp (fun k_ hk_ hs_ => (hk_.2) hs_)) (fun k_ hk_ => ⟨hk_.1.1,hk_.1.2⟩));have n1_:=Aside0.mk (Kd.R_mono (ok':=fun k_ => some k_ ≠ (.slice Ao40 t238.length co40 : Value).ownBlock ∧ some k_ ≠ (.slice Ao57 t251.length co57 : Value).ownBlock) (Kd.R_keptB (HO_247000.out) hkp (fun k_ hk_ hs_ => (hk_.2) hs_)) (fun k_ hk_ => ⟨hk_.1.1,hk_.1.2⟩));have n2_:=Aside0.mk (Kd.R_reok rfl hy0 (fun k_ e_ => HO_256000.out.1 k_ e_));have n3_:=Aside0.mk (blk_kept (zK0 BK227.out) hkp (fun hs_ => (fun e_ => (Kd.R_ne HO_256000.out BK227.out (by decide)) e_) hs_));have n4_:=Aside0.mk (blk_kept (zK0 BK228.out) hkp (fun hs_ => (fun e_ => (Kd.R_ne HO_256000.out BK228.out (by decide)) e_) hs_));have n5_:=Aside0.mk (blk_kept (zK0 BK242.out) hkp (fun hs_ => (fun e_ => (Kd.R_ne HO_256000.out BK242.out (by decide)) e_) hs_));have n6_:=Aside0.mk (blk_kept (zK0 BK246.out) hkp (fun hs_ => (fun e_ => (Kd.R_ne HO_256000.out BK246.out (by decide)) e_) hs_));have n7_:=Aside0.mk (blk_kept (zK0 BK255.out) hkp (fun hs_ => (fun e_ => (Kd.R_ne HO_256000.out BK255.out (by decide)) e_) hs_));have n8_:=Aside0.mk (hb);clear HO_243000;clear HO_247000;clear HO_256000;clear BK227;clear BK228;clear BK242;clear BK246;clear BK255;clear HB;have HO_243000:=n0_;have HO_247000:=n1_;have HO_256000:=n2_;have BK227:=n3_;have BK228:=n4_;have BK242:=n5_;have BK246:=n6_;have BK255:=n7_;have HB:=n8_;clear n0_ n1_ n2_ n3_ n4_ n5_ n6_ n7_ n8_;(try clear hb);(try clear hkp);(try clear hy0);have hcz211_0 : w210.cell? ⟨gb255,0,none⟩ = some (.slice Ao57 t251.length co57):=(blk_cell BK255.out 0).trans rfl;have hfz211_0:=blk_frozen BK255.out 0) | ((with_reducible refine gate_callee (f:=34) rfl ?_);refine goesL_ (some 78) rfl rfl Try.func34 (by kernel_rfl) rfl #[.agg #[.slice Ao57 t265.length co57],.int .i64 1] rfl (by (try simp only [List.map_toArray,List.map_cons,List.map_nil]);first | done | (rw [show t265.length = t251.length from (Kd.R_reads' HO_256000.out).1.symm] <;> rfl) | rfl | (simp only [List.length_drop,List.length_take];rfl)) ?_;(with_reducible refine (laws_heldDisk.calls kj85 _ _ t265 1 t266 _ ?side1 ?side2 A122.out).mono ?_);(case side1 => repeat (first | exact (Kd.R_reads' HO_256000.out).2.2 | (with_reducible refine Kd.C_alloc ?_ _) | (with_reducible refine Kd.C_drewN ?_ _) | (with_reducible refine Kd.C_drew ?_)));(case side2 => rw [show t265.length = t251.length from (Kd.R_reads' HO_256000.out).1.symm];exact (Kd.R_reads' HO_256000.out).2.1);rintro e w212 ⟨rfl,hb⟩;refine ⟨_,rfl,?_⟩;have n0_:=Aside0.mk (Kd.R_below (zR0 HO_243000.out) hb);have n1_:=Aside0.mk (Kd.R_below (zR0 HO_247000.out) hb);have n2_:=Aside0.mk (Kd.R_below (zR0 HO_256000.out) hb);have n3_:=Aside0.mk (zB0 BK227.out hb);have n4_:=Aside0.mk (zB0 BK228.out hb);have n5_:=Aside0.mk (zB0 BK242.out hb);have n6_:=Aside0.mk (zB0 BK246.out hb);have n7_:=Aside0.mk (zB0 BK255.out hb);have n8_:=Aside0.mk (zS0 HB.out hb);clear HO_243000;clear HO_247000;clear HO_256000;clear BK227;clear BK228;clear BK242;clear BK246;clear BK255;clear HB;have HO_243000:=n0_;have HO_247000:=n1_;have HO_256000:=n2_;have BK227:=n3_;have BK228:=n4_;have BK242:=n5_;have BK246:=n6_;have BK255:=n7_;have HB:=n8_;clear n0_ n1_ n2_ n3_ n4_ n5_ n6_ n7_ n8_;(try clear hb);(try clear hb2);(try clear hk);(try clear hi)))
            go_ret
            exact ⟨by first | rfl | (simp [errW_none,errW_some] <;> rfl) | (simp [*,errW_none,errW_some] <;> rfl),by repeat (first | (with_reducible first | exact HB.out | apply below_alloc | apply pw_below_drewN | apply below_drew1 | refine below_set ?_ GE227.out | refine below_set ?_ GE228.out | refine below_set ?_ GE242.out | refine below_set ?_ GE246.out | refine below_set ?_ GE255.out) | exact HB.out)⟩
      ·replace c84:=Bool.eq_false_iff.mpr c84
       subst c84
       have H1 : (some false) = some r:=by rw [if_neg (show ¬ (false = true) by decide)] at H;exact H
       exact absurd (H1.trans (congrArg some hrt)) (by first | simp | (cases kj135 <;> simp [laws_FnExactDoAct.j0,laws_FnExactDoAct.j1,laws_FnExactDoAct.j2]) | (cases kj85 <;> simp [laws_FnExactDoAct.j0,laws_FnExactDoAct.j1,laws_FnExactDoAct.j2]) | (cases kj24 <;> simp [laws_FnExactDoAct.j0,laws_FnExactDoAct.j1,laws_FnExactDoAct.j2]) | (cases k <;> simp [laws_FnExactDoAct.j0,laws_FnExactDoAct.j1,laws_FnExactDoAct.j2]))end Go.Proofs.Ytgfacdhkamphiaa.PFnExactDoAct
