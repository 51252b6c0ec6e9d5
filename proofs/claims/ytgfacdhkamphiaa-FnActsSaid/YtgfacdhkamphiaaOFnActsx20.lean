/- Walks, turned from a print. -/
import Derived.Test.YtgfacdhkamphiaaOFnActsx0
import Derived.Test.YtgfacdhkamphiaaOFnActsx2
import Derived.Test.YtgfacdhkamphiaaOFnActsx5
import Derived.Test.YtgfacdhkamphiaaOFnActsx11
import Derived.Test.YtgfacdhkamphiaaOFnActsx12
import Derived.Test.YtgfacdhkamphiaaOFnActsx15
import Derived.Test.YtgfacdhkamphiaaOFnActsx17
import Derived.Test.YtgfacdhkamphiaaOFnActsx19
namespace Go.Proofs.Ytgfacdhkamphiaa.PFnActs
open Go.RowKit Go.Proofs.YtgfacdhkamphiaaW.PrintWords Go.Proofs.YtgfacdhkamphiaaW.PrintLast Go.Proofs.YtgfacdhkamphiaaW.PrintMore
attribute [local go_sem] max2_int min2_int max_two min_two max_three min_three max_four min_four
set_option linter.unusedVariables false
set_option linter.unusedSimpArgs false

/-! ### laws_FnActs: function 9 -/
mutual
def laws_FnActs.j0 : Nat → List (S55) → Int → List Int → Int → Bool → List (S45) → List (S45) → Option (Bool)
 | 0,_,_,_,_,_,_,_ => none
 | k + 1,x4,x5,x6,x8,x52,x515000,x520000 => if x52 = true then (some false) else (laws_FnActs.l0 k x4 x5 x6 x8 0 x515000 x520000 x515000)
def laws_FnActs.l0 : Nat → List (S55) → Int → List Int → Int → Int → List (S45) → List (S45) → List (S45) → Option (Bool)
 | 0,_,_,_,_,_,_,_,_ => none
 | k + 1,x4,x5,x6,x8,x12,x515000,x520000,x527000 => if x12 < x8 then (if 0 ≤ x12 then (if x12 < (x4.length : Int) then ((impl_DoAct.f k x527000 ((rd_T55 x4 x12).f0) ((rd_T55 x4 x12).f1) ((rd_T55 x4 x12).f2) ((rd_T55 x4 x12).f3)).bind fun bt528 => (if bt528.2 = true then ((impl_FileAt.f x527000 ((rd_T55 x4 x12).f1)).bind fun bt534 => ((impl_FileAt.f bt528.1 ((rd_T55 x4 x12).f1)).bind fun bt537 => (if ((rd_T55 x4 x12).f0) = 1 then (if bt537.2 = true then (if bt534.1.size + ((rd_T55 x4 x12).f2).size ≤ 9223372036854775807 then (if bt537.1.toList = (bt534.1 ++ ((rd_T55 x4 x12).f2)).toList then (if ((rd_T55 x4 x12).f0) = 4 then (some false) else (laws_FnActs.l0 k x4 x5 x6 x8 (wrap64 (x12 + 1)) x515000 x520000 bt528.1)) else (some false)) else (none)) else (some false)) else (if ((rd_T55 x4 x12).f0) = 4 then (if bt537.2 = true then (some false) else (laws_FnActs.l0 k x4 x5 x6 x8 (wrap64 (x12 + 1)) x515000 x520000 bt528.1)) else (laws_FnActs.l0 k x4 x5 x6 x8 (wrap64 (x12 + 1)) x515000 x520000 bt528.1))))) else (some false))) else (none)) else (none)) else ((impl_CutActs.f k x515000 x4 x5 x6).bind fun bt543 => ((spec_CutActs.f k x515000 x4 x5 x6).bind fun bt548 => (if (bt543.2 == bt548.2) = true then ((laws_sameDisk.f k bt543.1 bt548.1).bind fun t553 => (if t553 = true then (if x8 = 0 then (some true) else ((laws_sameDisk.f k x527000 x520000).bind fun t554 => (some t554))) else (some false))) else (some false))))
end
def laws_FnActs.f (k : Nat) (l0 : List Int) : Option (Bool):=(laws_big.f l0).bind fun t503 => (if t503 = true then (some true) else ((spec_DrawCutActs.f k l0).bind fun bt504 => ((impl_DoActs.f k bt504.1 bt504.2.1).bind fun bt515 => ((spec_DoActs.f k bt504.1 bt504.2.1).bind fun bt520 => (if bt515.2 = bt520.2 then ((laws_sameDisk.f k bt515.1 bt520.1).bind fun t525 => (laws_FnActs.j0 k bt504.2.1 bt504.2.2.1 bt504.2.2.2 bt515.2 (!t525) bt504.1 bt515.1)) else (laws_FnActs.j0 k bt504.2.1 bt504.2.2.1 bt504.2.2.2 bt515.2 true bt504.1 bt515.1))))))
theorem laws_FnActs.mono_l : ∀ k,(∀ y0 y1 y2 y3 y4 y5 y6,LeO (laws_FnActs.j0 k y0 y1 y2 y3 y4 y5 y6) (laws_FnActs.j0 (k + 1) y0 y1 y2 y3 y4 y5 y6)) ∧ (∀ y0 y1 y2 y3 y4 y5 y6 y7,LeO (laws_FnActs.l0 k y0 y1 y2 y3 y4 y5 y6 y7) (laws_FnActs.l0 (k + 1) y0 y1 y2 y3 y4 y5 y6 y7))
 | 0 => ⟨fun _ _ _ _ _ _ _ r h => by simp [laws_FnActs.j0] at h,fun _ _ _ _ _ _ _ _ r h => by simp [laws_FnActs.l0] at h⟩
 | k + 1 => by
  obtain ⟨ih0,ih1⟩:=laws_FnActs.mono_l k
  refine ⟨?_,?_⟩
  intro y0 y1 y2 y3 y4 y5 y6;unfold laws_FnActs.j0;rotate_left
  intro y0 y1 y2 y3 y4 y5 y6 y7;unfold laws_FnActs.l0;rotate_left
  all_goals repeat' first
  | (with_reducible exact ih0 _ _ _ _ _ _ _)
  | (with_reducible exact ih1 _ _ _ _ _ _ _ _)
  | (with_reducible exact impl_CutActs.mono _ _ _ _ _)
  | (with_reducible exact impl_DoAct.mono _ _ _ _ _ _)
  | (with_reducible exact impl_DoActs.mono _ _ _)
  | (with_reducible exact laws_sameDisk.mono _ _ _)
  | (with_reducible exact spec_CutActs.mono _ _ _ _ _)
  | (with_reducible exact spec_DoActs.mono _ _ _)
  | (with_reducible exact spec_DrawCutActs.mono _ _)
  | (with_reducible exact LeO.refl _)
  | (with_reducible exact LeO.none _)
  | (with_reducible refine LeO.ite ?_ ?_)
  | (with_reducible refine LeO.bind ?_ (fun _ => ?_))
theorem laws_FnActs.mono : ∀ a0 k,LeO (laws_FnActs.f k a0) (laws_FnActs.f (k + 1) a0):=by
 intro a0 k
 obtain ⟨ih0,ih1⟩:=laws_FnActs.mono_l k
 unfold laws_FnActs.f
 repeat' first
  | (with_reducible exact ih0 _ _ _ _ _ _ _)
  | (with_reducible exact ih1 _ _ _ _ _ _ _ _)
  | (with_reducible exact impl_CutActs.mono _ _ _ _ _)
  | (with_reducible exact impl_DoAct.mono _ _ _ _ _ _)
  | (with_reducible exact impl_DoActs.mono _ _ _)
  | (with_reducible exact laws_sameDisk.mono _ _ _)
  | (with_reducible exact spec_CutActs.mono _ _ _ _ _)
  | (with_reducible exact spec_DoActs.mono _ _ _)
  | (with_reducible exact spec_DrawCutActs.mono _ _)
  | (with_reducible exact LeO.refl _)
  | (with_reducible exact LeO.none _)
  | (with_reducible refine LeO.ite ?_ ?_)
  | (with_reducible refine LeO.bind ?_ (fun _ => ?_))
def laws_FnActs.T12 : Bool × List (List Nat × List Nat):=(true,[([],[]),([],[]),([],[]),([1,2],[1,2]),([3],[3]),([0,4],[0,4]),([5],[5]),([6],[6]),([6],[6]),([],[]),([9,7,5,0,1,2,3,4,5,6,7,9],[7,9]),([8,10,0,1,2,3,4,5,6,7,8,9,10],[8])])
def laws_FnActs.B12 : List Nat:=[0,0,0,6,14,31,63,127,127,0,767,2047]
theorem laws_FnActs.tab12 : rtab .any (opsOf Try.f9 12) = laws_FnActs.T12:=by kernel_rfl
theorem laws_FnActs.bits12 : waitsOk laws_FnActs.T12.2 laws_FnActs.B12 = true:=by kernel_rfl
def laws_FnActs.T15 : Bool × List (List Nat × List Nat):=(true,[([],[]),([],[]),([],[]),([1,2],[1,2]),([3],[3]),([4],[4]),([0,5],[0,5]),([6],[6]),([7],[7]),([7],[7]),([8,6,0,1,2,3,4,5,6,7,8],[8]),([9,10,0,1,2,3,4,5,6,7,8,9,10],[9])])
def laws_FnActs.B15 : List Nat:=[0,0,0,6,14,30,63,127,255,255,511,2047]
theorem laws_FnActs.tab15 : rtab .any (opsOf Try.f9 15) = laws_FnActs.T15:=by kernel_rfl
theorem laws_FnActs.bits15 : waitsOk laws_FnActs.T15.2 laws_FnActs.B15 = true:=by kernel_rfl
def laws_FnActs.T16 : Bool × List (List Nat × List Nat):=(true,[([],[]),([],[]),([],[]),([1,2],[1,2]),([3],[3]),([4],[4]),([0,5],[0,5]),([6],[6]),([7],[7]),([7],[7]),([8,6,0,1,2,3,4,5,6,7,8],[8]),([9,10,0,1,2,3,4,5,6,7,8,9,10],[9])])
def laws_FnActs.B16 : List Nat:=[0,0,0,6,14,30,63,127,255,255,511,2047]
theorem laws_FnActs.tab16 : rtab .any (opsOf Try.f9 16) = laws_FnActs.T16:=by kernel_rfl
theorem laws_FnActs.bits16 : waitsOk laws_FnActs.T16.2 laws_FnActs.B16 = true:=by kernel_rfl
set_option maxHeartbeats 8000000 in
set_option maxRecDepth 100000 in
theorem laws_FnActs.calls (k : Nat) (A0 : Option Addr) (c0 : Nat) (l0 : List Int) (r : Bool) (w : World) (hr0 : Kd.C (Kd.int .u8) w A0 l0.length l0) (hc0 : l0.length ≤ c0) (h : laws_FnActs.f k l0 = some r) (hrt : r = true) :
  Calls Try.prog 9 #[.slice A0 l0.length c0] w fun e w' => e = .returned (.bool r) ∧ Below w.heap.size w w':=by
 have hu30:=Try.underlying30
 have hu55:=Try.underlying55
 have HR0:=Aside0.mk hr0
 have HC0:=Aside0.mk hc0
 clear hr0 hc0
 have HB:=Aside0.mk (Below.refl w.heap.size w)
 have H : ((laws_big.f l0).bind fun t503 => (if t503 = true then (some true) else ((spec_DrawCutActs.f k l0).bind fun bt504 => ((impl_DoActs.f k bt504.1 bt504.2.1).bind fun bt515 => ((spec_DoActs.f k bt504.1 bt504.2.1).bind fun bt520 => (if bt515.2 = bt520.2 then ((laws_sameDisk.f k bt515.1 bt520.1).bind fun t525 => (laws_FnActs.j0 k bt504.2.1 bt504.2.2.1 bt504.2.2.2 bt515.2 (!t525) bt504.1 bt515.1)) else (laws_FnActs.j0 k bt504.2.1 bt504.2.2.1 bt504.2.2.2 bt515.2 true bt504.1 bt515.1))))))) = some r:=h
 clear h
 obtain ⟨t503,A2,H⟩:=bX0 H
 by_cases c3 : t503 = true
 ·subst c3
  rw [if_pos rfl] at H
  obtain rfl:=Option.some.inj H
  go_enter Try.func9,Try.ntmps9
  go_wp2_with (first | ((with_reducible refine gate_callee (f:=21) rfl ?_);refine goesL_ (some 24) rfl rfl Try.func21 (by kernel_rfl) rfl #[.slice A0 l0.length c0] rfl zM0 ?_;(with_reducible refine (laws_big.calls _ _ l0 true _ ?side1 ?side2 A2.out).mono ?_);(case side1 => repeat (first | exact HR0.out | (with_reducible refine Kd.C_alloc ?_ _) | (with_reducible refine Kd.C_drewN ?_ _) | (with_reducible refine Kd.C_drew ?_)));(case side2 => exact HC0.out);rintro e w' ⟨rfl,⟨nd,rfl⟩⟩;refine ⟨_,rfl,?_⟩))
  go_ret
  exact ⟨zW0,(zY0 HB.out)⟩
 ·replace c3:=Bool.eq_false_iff.mpr c3
  subst c3
  rw [if_neg (show ¬ (false = true) by decide)] at H
  obtain ⟨⟨t504,t507,t510,t511⟩,A4,H⟩:=bX0 H
  dsimp only at H
  obtain ⟨⟨t515,t518⟩,A5,H⟩:=bX0 H
  dsimp only at H
  obtain ⟨⟨t520,t523⟩,A6,H⟩:=bX0 H
  dsimp only at H
  have HC7:=Aside0.mk H
  clear H
  go_enter Try.func9,Try.ntmps9
  go_upto_region 6 with (first | ((with_reducible refine gate_callee (f:=21) rfl ?_);refine goesL_ (some 24) rfl rfl Try.func21 (by kernel_rfl) rfl #[.slice A0 l0.length c0] rfl zM0 ?_;(with_reducible refine (laws_big.calls _ _ l0 false _ ?side1 ?side2 A2.out).mono ?_);(case side1 => repeat (first | exact HR0.out | (with_reducible refine Kd.C_alloc ?_ _) | (with_reducible refine Kd.C_drewN ?_ _) | (with_reducible refine Kd.C_drew ?_)));(case side2 => exact HC0.out);rintro e w' ⟨rfl,⟨nd,rfl⟩⟩;refine ⟨_,rfl,?_⟩) | ((with_reducible refine gate_callee (f:=45) rfl ?_);refine goesL_ (some 27) rfl rfl Try.func45 (by kernel_rfl) rfl #[.slice A0 l0.length c0] rfl zM0 ?_;(with_reducible refine (spec_DrawCutActs.calls k _ _ l0 t504 t507 t510 t511 _ ?side1 ?side2 A4.out).mono ?_);(case side1 => repeat (first | exact HR0.out | (with_reducible refine Kd.C_alloc ?_ _) | (with_reducible refine Kd.C_drewN ?_ _) | (with_reducible refine Kd.C_drew ?_)));(case side2 => exact HC0.out);rintro e w8 ⟨v505,v508,v512,rfl,ho0,ho1,ho2,hb⟩;refine ⟨_,rfl,?_⟩;have HO506:=Aside0.mk (Kd.R_lower ho0 (zZ0 HB.out));have HO509:=Aside0.mk (Kd.R_lower ho1 (zZ0 HB.out));have HO513:=Aside0.mk (Kd.R_lower ho2 (zZ0 HB.out));replace HB:=zs0 HB hb;(try clear hb);(try clear ho0);(try clear ho1);(try clear ho2)) | ((with_reducible refine gate_dst (N:=3) rfl ?_);refine zy0 (cs:=#[.slice none 0 0]) (t:=30) ?_;intro gb514 hg w9 hbox hb;replace HO506:=Aside0.mk (Kd.R_below (zR0 HO506.out) hb);replace HO509:=Aside0.mk (Kd.R_below (zR0 HO509.out) hb);replace HO513:=Aside0.mk (Kd.R_below (zR0 HO513.out) hb);have BK514:=Aside0.mk hbox;have GW514:=zz0 hg HB;have GE514:=zz0 hg HB;replace HB:=zs0 HB hb;clear hb hbox hg;obtain ⟨Ao10,co10,eo10⟩:=Kd.R_slice HO506.out;subst eo10;obtain ⟨hcz11_0,hfz11_0⟩:=zd01 BK514;obtain ⟨Ao12,co12,eo12⟩:=Kd.R_slice HO509.out;subst eo12) | ((with_reducible refine gate_callee (f:=42) rfl ?_);refine goesL_ (some 35) rfl rfl Try.func42 (by kernel_rfl) rfl #[.agg #[.slice Ao10 t504.length co10],.slice Ao12 t507.length co12] rfl zM0 ?_;(with_reducible refine (impl_DoActs.calls k _ _ t504 _ _ t507 t515 t518 _ ?side1 ?side2 ?side3 ?side4 A5.out).mono ?_);(case side1 => refine (Kd.R_reads' (e:=45) (base:=w.heap.size) (ok:=fun k_ => True) (n:=t504.length) (c:=co10) ?_).2.2;exact (by refine zV0 ?_;exact (Kd.R_set HO506.out BK514.out (by decide) 0 _)));(case side2 => exact (Kd.R_reads' HO506.out).2.1);(case side3 => refine (Kd.R_reads' (e:=55) (base:=w.heap.size) (ok:=fun k_ => True) (n:=t507.length) (c:=co12) ?_).2.2;exact (by refine zV0 ?_;exact (Kd.R_set HO509.out BK514.out (by decide) 0 _)));(case side4 => exact (Kd.R_reads' HO509.out).2.1);rintro e w13 ⟨v516,rfl,ho0,hb⟩;refine ⟨_,rfl,?_⟩;replace HO509:=Aside0.mk (Kd.R_below (by refine zV0 ?_;exact (Kd.R_set HO509.out BK514.out (by decide) 0 _)) hb);replace HO513:=Aside0.mk (Kd.R_below (by refine zV0 ?_;exact (Kd.R_set HO513.out BK514.out (by decide) 0 _)) hb);have HO517:=Aside0.mk (Kd.R_lower (Kd.R_new' ho0 (Kd.R_lt (by refine zV0 ?_;exact (Kd.R_set HO506.out BK514.out (by decide) 0 _)))) (zZ0 HB.out));replace HO506:=Aside0.mk (Kd.R_elder' (by refine zV0 ?_;exact (Kd.R_set HO506.out BK514.out (by decide) 0 _)) (Kd.R_base ho0) hb);replace BK514:=Aside0.mk (blk_below (g:=gb514) (o:=.cells #[.slice Ao10 t504.length co10] 30 (0,0)) (by refine zT0 ?_;refine blk_put (cs:=#[.slice none 0 0]) ?_ 0 _ rfl;exact zK0 BK514.out) hb);replace HB:=zs0 HB hb;(try clear hb);(try clear hk);(try clear ho0)) | ((with_reducible refine gate_dst (N:=7) rfl ?_);refine zy0 (cs:=#[.slice none 0 0]) (t:=30) ?_;intro gb519 hg w14 hbox hb;replace HO506:=Aside0.mk (Kd.R_below (zR0 HO506.out) hb);replace HO509:=Aside0.mk (Kd.R_below (zR0 HO509.out) hb);replace HO513:=Aside0.mk (Kd.R_below (zR0 HO513.out) hb);replace HO517:=Aside0.mk (Kd.R_below (zR0 HO517.out) hb);have BK519:=Aside0.mk hbox;have GW519:=zz0 hg HB;have GE519:=zz0 hg HB;replace HB:=zs0 HB hb;have NB514_519:=zl0 hg BK514;have NB519_514:=zg0 hg BK514;replace BK514:=zb0 BK514 hb;clear hb hbox hg;obtain ⟨Ao15,co15,eo15⟩:=Kd.R_slice HO517.out;subst eo15;obtain ⟨_,_⟩:=zn0 NB519_514;obtain ⟨hcz17_0,hfz17_0⟩:=zd01 BK519;obtain ⟨hcz18_0,hfz18_0⟩:=zd01 BK514) | ((with_reducible refine gate_callee (f:=40) rfl ?_);refine goesL_ (some 41) rfl rfl Try.func40 (by kernel_rfl) rfl #[.agg #[.slice Ao10 t504.length co10],.slice Ao12 t507.length co12] rfl zM0 ?_;(with_reducible refine (spec_DoActs.calls k _ _ t504 _ _ t507 t520 t523 _ ?side1 ?side2 ?side3 ?side4 A6.out).mono ?_);(case side1 => refine (Kd.R_reads' (e:=45) (base:=w.heap.size) (ok:=fun k_ => (True ∧ some k_ ≠ (.slice Ao15 t515.length co15 : Value).ownBlock)) (n:=t504.length) (c:=co10) ?_).2.2;exact (by refine zV0 ?_;exact (Kd.R_set HO506.out BK519.out (by decide) 0 _)));(case side2 => exact (Kd.R_reads' HO506.out).2.1);(case side3 => refine (Kd.R_reads' (e:=55) (base:=w.heap.size) (ok:=fun k_ => True) (n:=t507.length) (c:=co12) ?_).2.2;exact (by refine zV0 ?_;exact (Kd.R_set HO509.out BK519.out (by decide) 0 _)));(case side4 => exact (Kd.R_reads' HO509.out).2.1);rintro e w19 ⟨v521,rfl,ho0,hb⟩;refine ⟨_,rfl,?_⟩;replace HO509:=Aside0.mk (Kd.R_below (by refine zV0 ?_;exact (Kd.R_set HO509.out BK519.out (by decide) 0 _)) hb);replace HO513:=Aside0.mk (Kd.R_below (by refine zV0 ?_;exact (Kd.R_set HO513.out BK519.out (by decide) 0 _)) hb);have HO522:=Aside0.mk (Kd.R_lower (Kd.R_new' (Kd.R_new' ho0 (Kd.R_lt (by refine zV0 ?_;exact (Kd.R_set HO506.out BK519.out (by decide) 0 _)))) (Kd.R_lt (by refine zV0 ?_;exact (Kd.R_set HO517.out BK519.out (by decide) 0 _)))) (zZ0 HB.out));replace HO506:=Aside0.mk (Kd.R_elder' (by refine zV0 ?_;exact (Kd.R_set HO506.out BK519.out (by decide) 0 _)) (Kd.R_base ho0) hb);replace HO517:=Aside0.mk (Kd.R_elder' (by refine zV0 ?_;exact (Kd.R_set HO517.out BK519.out (by decide) 0 _)) (Kd.R_base ho0) hb);replace BK514:=zb0 BK514 hb;replace BK519:=Aside0.mk (blk_below (g:=gb519) (o:=.cells #[.slice Ao15 t515.length co15] 30 (0,0)) (by refine zT0 ?_;refine blk_put (cs:=#[.slice none 0 0]) ?_ 0 _ rfl;exact zK0 BK519.out) hb);replace HB:=zs0 HB hb;(try clear hb);(try clear hk);(try clear ho0)) | ((with_reducible refine gate_dst (N:=9) rfl ?_);refine zy0 (cs:=#[.slice none 0 0]) (t:=30) ?_;intro gb524 hg w20 hbox hb;replace HO506:=Aside0.mk (Kd.R_below (zR0 HO506.out) hb);replace HO509:=Aside0.mk (Kd.R_below (zR0 HO509.out) hb);replace HO513:=Aside0.mk (Kd.R_below (zR0 HO513.out) hb);replace HO517:=Aside0.mk (Kd.R_below (zR0 HO517.out) hb);replace HO522:=Aside0.mk (Kd.R_below (zR0 HO522.out) hb);have BK524:=Aside0.mk hbox;have GW524:=zz0 hg HB;have GE524:=zz0 hg HB;replace HB:=zs0 HB hb;have NB514_524:=zl0 hg BK514;have NB524_514:=zg0 hg BK514;replace BK514:=zb0 BK514 hb;have NB519_524:=zl0 hg BK519;have NB524_519:=zg0 hg BK519;replace BK519:=zb0 BK519 hb;clear hb hbox hg;obtain ⟨Ao21,co21,eo21⟩:=Kd.R_slice HO522.out;subst eo21;obtain ⟨_,_⟩:=zn0 NB524_514;obtain ⟨_,_⟩:=zn0 NB524_519;obtain ⟨hcz24_0,hfz24_0⟩:=zd01 BK524))
  (try simp only [Act.put,qA0,qB0,qC0])
  go_cut [52] (fun v52 wc => ∃ (kq : Nat) (x52_6 : Bool),v52 = .bool x52_6 ∧ Aside0 (laws_FnActs.j0 kq t507 t510 t511 t518 x52_6 t504 t515 = some r) ∧ Aside0 (kq ≤ k) ∧ Aside0 (Kd.R k55 55 wc w.heap.size (fun _ => True) (.slice Ao12 t507.length co12) t507) ∧ Aside0 (Kd.R (Kd.int .i64) 3 wc w.heap.size (fun _ => True) v512 t511) ∧ Aside0 (Kd.R k45 45 wc w.heap.size (fun k_ => some k_ ≠ ((.slice Ao15 t515.length co15) : Value).ownBlock ∧ some k_ ≠ ((.slice Ao21 t520.length co21) : Value).ownBlock) (.slice Ao10 t504.length co10) t504) ∧ Aside0 (Kd.R k45 45 wc w.heap.size (fun k_ => some k_ ≠ ((.slice Ao10 t504.length co10) : Value).ownBlock ∧ some k_ ≠ ((.slice Ao21 t520.length co21) : Value).ownBlock) (.slice Ao15 t515.length co15) t515) ∧ Aside0 (Kd.R k45 45 wc w.heap.size (fun k_ => some k_ ≠ ((.slice Ao10 t504.length co10) : Value).ownBlock ∧ some k_ ≠ ((.slice Ao15 t515.length co15) : Value).ownBlock) (.slice Ao21 t520.length co21) t520) ∧ Aside0 (wc.heap[gb514]? = some (.cells #[(.slice Ao10 t504.length co10)] 30 (0,0))) ∧ Aside0 (wc.heap[gb519]? = some (.cells #[(.slice Ao15 t515.length co15)] 30 (0,0))) ∧ Aside0 (wc.heap[gb524]? = some (.cells #[(.slice Ao21 t520.length co21)] 30 (0,0))) ∧ Aside0 (Below w.heap.size w wc))
  case first =>
   have H:=HC7.out
   clear HC7
   by_cases c25 : t518 = t523
   ·rw [if_pos c25] at H
    have c25b0 : (t518 == t523) = true:=beq_iff_eq.mpr c25
    have c25b1 : (t518 != t523) = false:=bne_eq_false_iff_eq.mpr c25
    clear c25
    (first | rw [c25b0] | (simp only [i64_w,i32_w];rw [c25b0]) | skip)
    obtain ⟨t525,A26,H⟩:=bX0 H
    have H':=Aside0.mk H
    clear H
    obtain ⟨_,_⟩:=zn0 NB519_514
    obtain ⟨_,_⟩:=zn0 NB519_524
    obtain ⟨_,_⟩:=zd01 BK519
    obtain ⟨_,_⟩:=zn0 NB524_514
    obtain ⟨_,_⟩:=zd01 BK524
    go_wp2_with (first | (go_at_call 26;(with_reducible refine (laws_sameDisk.calls k _ _ t515 _ _ t520 t525 _ ?side1 ?side2 ?side3 ?side4 A26.out).mono ?_);(case side1 => refine (Kd.R_reads' (e:=45) (base:=w.heap.size) (ok:=fun k_ => ((True ∧ some k_ ≠ (.slice Ao10 t504.length co10 : Value).ownBlock) ∧ some k_ ≠ (.slice Ao21 t520.length co21 : Value).ownBlock)) (n:=t515.length) (c:=co15) ?_).2.2;exact (by refine zV0 ?_;exact (Kd.R_set HO517.out BK524.out (by decide) 0 _)));(case side2 => exact (Kd.R_reads' HO517.out).2.1);(case side3 => refine (Kd.R_reads' (e:=45) (base:=w.heap.size) (ok:=fun k_ => ((True ∧ some k_ ≠ (.slice Ao10 t504.length co10 : Value).ownBlock) ∧ some k_ ≠ (.slice Ao15 t515.length co15 : Value).ownBlock)) (n:=t520.length) (c:=co21) ?_).2.2;exact (by refine zV0 ?_;exact (Kd.R_set HO522.out BK524.out (by decide) 0 _)));(case side4 => exact (Kd.R_reads' HO522.out).2.1);rintro e w32 ⟨rfl,hb⟩;replace HO506:=Aside0.mk (Kd.R_below (by refine zV0 ?_;exact (Kd.R_set HO506.out BK524.out (by decide) 0 _)) hb);replace HO509:=Aside0.mk (Kd.R_below (by refine zV0 ?_;exact (Kd.R_set HO509.out BK524.out (by decide) 0 _)) hb);replace HO513:=Aside0.mk (Kd.R_below (by refine zV0 ?_;exact (Kd.R_set HO513.out BK524.out (by decide) 0 _)) hb);replace HO517:=Aside0.mk (Kd.R_below (by refine zV0 ?_;exact (Kd.R_set HO517.out BK524.out (by decide) 0 _)) hb);replace HO522:=Aside0.mk (Kd.R_below (by refine zV0 ?_;exact (Kd.R_set HO522.out BK524.out (by decide) 0 _)) hb);replace BK514:=zb0 BK514 hb;replace BK519:=zb0 BK519 hb;replace BK524:=Aside0.mk (blk_below (g:=gb524) (o:=.cells #[.slice Ao21 t520.length co21] 30 (0,0)) (by refine zT0 ?_;refine blk_put (cs:=#[.slice none 0 0]) ?_ 0 _ rfl;exact zK0 BK524.out) hb);replace HB:=zs0 HB hb;(try clear hb);(try clear hk)))
    go_meet
    case rel => exact ⟨_,(!t525),zE0,H',⟨by first | omega | exact Nat.le_refl _⟩,⟨zR0 HO509.out⟩,⟨zR0 HO513.out⟩,⟨by refine zV0 ?_;exact Kd.R_mono HO506.out (fun _ hk => ⟨hk.1.2,hk.2⟩)⟩,⟨by refine zV0 ?_;exact Kd.R_mono HO517.out (fun _ hk => ⟨hk.1.2,hk.2⟩)⟩,⟨by refine zV0 ?_;exact Kd.R_mono HO522.out (fun _ hk => ⟨hk.1.2,hk.2⟩)⟩,⟨zK0 BK514.out⟩,⟨zK0 BK519.out⟩,⟨zK0 BK524.out⟩,⟨zY0 HB.out⟩⟩
   ·rw [if_neg c25] at H
    exact absurd (H.trans (congrArg some hrt)) (by first | simp | (cases k <;> simp [laws_FnActs.j0]))
  case rest =>
   clear HC7
   try clear c3
   try clear hcz11_0
   try clear hcz17_0
   try clear hcz18_0
   try clear hcz24_0
   try clear hfz11_0
   try clear hfz17_0
   try clear hfz18_0
   try clear hfz24_0
   obtain ⟨kq,x52_6,rfl,HA,HJ6,HO_4,HO_6,HO_515000,HO_520000,HO_525000,BK514,BK519,BK524,HB⟩:=hcut
   cases kq with
   | zero => exact absurd HA.out (by simp [laws_FnActs.j0])
   | succ kj6 =>
    have H:=HA.out
    clear HA
    simp only [laws_FnActs.j0] at H
    by_cases c33 : x52_6 = true
    ·subst c33
     have H1 : (some false) = some r:=by rw [if_pos rfl] at H;exact H
     exact absurd (H1.trans (congrArg some hrt)) (by first | simp | (cases kj6 <;> simp [laws_FnActs.j0]) | (cases k <;> simp [laws_FnActs.j0]))
    ·replace c33:=Bool.eq_false_iff.mpr c33
     subst c33
     rw [if_neg (show ¬ (false = true) by decide)] at H
     have H':=Aside0.mk H
     clear H
     obtain ⟨_,_⟩:=zn0 NB514_519
     obtain ⟨_,_⟩:=zn0 NB514_524
     have hcz36_0 : wc.cell? ⟨gb514,0,none⟩ = some (.slice Ao10 t504.length co10):=zc00 BK514
     have hfz36_0:=blk_frozen BK514.out 0
     go_wp2_with (first | ((with_reducible refine gate_dst (N:=11) rfl ?_);refine zy0 (cs:=#[.slice none 0 0]) (t:=30) ?_;intro gb526 hg w37 hbox hb;replace HO_4:=Aside0.mk (Kd.R_below (zR0 HO_4.out) hb);replace HO_6:=Aside0.mk (Kd.R_below (zR0 HO_6.out) hb);replace HO_515000:=Aside0.mk (Kd.R_below (zR0 HO_515000.out) hb);replace HO_520000:=Aside0.mk (Kd.R_below (zR0 HO_520000.out) hb);replace HO_525000:=Aside0.mk (Kd.R_below (zR0 HO_525000.out) hb);have BK526:=Aside0.mk hbox;have GW526:=zz0 hg HB;have GE526:=zz0 hg HB;replace HB:=zs0 HB hb;have NB514_526:=zl0 hg BK514;have NB526_514:=zg0 hg BK514;replace BK514:=zb0 BK514 hb;have NB519_526:=zl0 hg BK519;have NB526_519:=zg0 hg BK519;replace BK519:=zb0 BK519 hb;have NB524_526:=zl0 hg BK524;have NB526_524:=zg0 hg BK524;replace BK524:=zb0 BK524 hb;clear hb hbox hg;obtain ⟨_,_⟩:=zn0 NB526_514;obtain ⟨_,_⟩:=zn0 NB526_519;obtain ⟨_,_⟩:=zn0 NB526_524;obtain ⟨hcz41_0,hfz41_0⟩:=zd01 BK526))
     go_loopg [12] kj6 (fun kq v12 w' => ∃ (x12_2 : Int) (x527000_2 : List (S45)) (u527000 : Value),v12 = .int .i64 x12_2 ∧ Aside0 (laws_FnActs.l0 kq t507 t510 t511 t518 x12_2 t504 t515 x527000_2 = some r) ∧ Aside0 (kq ≤ kj6) ∧ Aside0 (Kd.R k55 55 w' w.heap.size (fun _ => True) (.slice Ao12 t507.length co12) t507) ∧ Aside0 (Kd.R (Kd.int .i64) 3 w' w.heap.size (fun _ => True) v512 t511) ∧ Aside0 (Kd.R k45 45 w' w.heap.size (fun k_ => some k_ ≠ ((.slice Ao15 t515.length co15) : Value).ownBlock ∧ some k_ ≠ ((.slice Ao21 t520.length co21) : Value).ownBlock) (.slice Ao10 t504.length co10) t504) ∧ Aside0 (Kd.R k45 45 w' w.heap.size (fun k_ => some k_ ≠ ((.slice Ao10 t504.length co10) : Value).ownBlock ∧ some k_ ≠ ((.slice Ao21 t520.length co21) : Value).ownBlock ∧ some k_ ≠ (u527000 : Value).ownBlock) (.slice Ao15 t515.length co15) t515) ∧ Aside0 (Kd.R k45 45 w' w.heap.size (fun k_ => some k_ ≠ ((.slice Ao10 t504.length co10) : Value).ownBlock ∧ some k_ ≠ ((.slice Ao15 t515.length co15) : Value).ownBlock ∧ some k_ ≠ (u527000 : Value).ownBlock) (.slice Ao21 t520.length co21) t520) ∧ Aside0 (Kd.R k45 45 w' w.heap.size (fun k_ => some k_ ≠ ((.slice Ao15 t515.length co15) : Value).ownBlock ∧ some k_ ≠ ((.slice Ao21 t520.length co21) : Value).ownBlock) u527000 x527000_2) ∧ Aside0 (w'.heap[gb514]? = some (.cells #[(.slice Ao10 t504.length co10)] 30 (0,0))) ∧ Aside0 (w'.heap[gb519]? = some (.cells #[(.slice Ao15 t515.length co15)] 30 (0,0))) ∧ Aside0 (w'.heap[gb524]? = some (.cells #[(.slice Ao21 t520.length co21)] 30 (0,0))) ∧ Aside0 (w'.heap[gb526]? = some (.cells #[u527000] 30 (0,0))) ∧ Aside0 (Below w.heap.size w w'))
     case atStart => exact ⟨(0),(t504),(.slice Ao10 t504.length co10),zE0,H',⟨Nat.le_refl _⟩,⟨by refine zV0 ?_;exact Kd.R_mono (Kd.R_far (p:=⟨gb526,0,none⟩) (Kd.R_types HO_4.out BK526.out (by decide)) (fun _ hk => hk.2) (.slice Ao10 t504.length co10)) (fun _ hk => trivial)⟩,⟨by refine zV0 ?_;exact Kd.R_mono (Kd.R_far (p:=⟨gb526,0,none⟩) (Kd.R_types HO_6.out BK526.out (by decide)) (fun _ hk => hk.2) (.slice Ao10 t504.length co10)) (fun _ hk => trivial)⟩,⟨by refine zV0 ?_;exact Kd.R_mono (Kd.R_far (p:=⟨gb526,0,none⟩) (Kd.R_types HO_515000.out BK526.out (by decide)) (fun _ hk => hk.2) (.slice Ao10 t504.length co10)) (fun _ hk => ⟨hk.1.1,hk.1.2⟩)⟩,⟨by refine zV0 ?_;exact Kd.R_mono (Kd.R_far (p:=⟨gb526,0,none⟩) (Kd.R_types HO_520000.out BK526.out (by decide)) (fun _ hk => hk.2) (.slice Ao10 t504.length co10)) (fun _ hk => ⟨hk.1.1,⟨hk.1.2,hk.1.1⟩⟩)⟩,⟨by refine zV0 ?_;exact Kd.R_mono (Kd.R_far (p:=⟨gb526,0,none⟩) (Kd.R_types HO_525000.out BK526.out (by decide)) (fun _ hk => hk.2) (.slice Ao10 t504.length co10)) (fun _ hk => ⟨hk.1.1,⟨hk.1.2,hk.1.1⟩⟩)⟩,⟨by refine zV0 ?_;exact Kd.R_mono (Kd.R_far (p:=⟨gb526,0,none⟩) (Kd.R_types HO_515000.out BK526.out (by decide)) (fun _ hk => hk.2) (.slice Ao10 t504.length co10)) (fun _ hk => ⟨hk.1.1,hk.1.2⟩)⟩,⟨zK0 BK514.out⟩,⟨zK0 BK519.out⟩,⟨zK0 BK524.out⟩,⟨by refine zT0 ?_;refine blk_put (cs:=#[.slice none 0 0]) ?_ 0 _ rfl;exact zK0 BK526.out⟩,⟨zY0 HB.out⟩⟩
     case round =>
      clear H'
      try clear c3
      try clear c33
      try clear hcz11_0
      try clear hcz17_0
      try clear hcz18_0
      try clear hcz24_0
      try clear hcz36_0
      try clear hcz41_0
      try clear hfz11_0
      try clear hfz17_0
      try clear hfz18_0
      try clear hfz24_0
      try clear hfz36_0
      try clear hfz41_0
      obtain ⟨x12_2,x527000_2,u527000,rfl,HA,HK2,HO_4,HO_6,HO_515000,HO_520000,HO_525000,HO_527000,BK514,BK519,BK524,BK526,HB⟩:=hrel
      cases gk with
      | zero => exact absurd HA.out (by simp [laws_FnActs.l0])
      | succ k2 =>
       have H:=HA.out
       clear HA
       simp only [laws_FnActs.l0] at H
       by_cases c42 : x12_2 < t518
       ·rw [if_pos c42] at H
        have c42b0 : decide (x12_2 < t518) = true:=decide_eq_true c42
        clear c42
        by_cases c43 : 0 ≤ x12_2
        ·rw [if_pos c43] at H
         have c43b0 : decide (0 ≤ x12_2) = true:=decide_eq_true c43
         clear c43
         by_cases c44 : x12_2 < (t507.length : Int)
         ·rw [if_pos c44] at H
          have c44b0 : decide (x12_2 < (t507.length : Int)) = true:=decide_eq_true c44
          clear c44
          obtain ⟨⟨t528,t531⟩,A45,H⟩:=bX0 H
          dsimp only at H
          by_cases c46 : t531 = true
          ·subst c46
           rw [if_pos rfl] at H
           obtain ⟨⟨t534,t535⟩,A47,H⟩:=bX0 H
           dsimp only at H
           obtain ⟨⟨t537,t538⟩,A48,H⟩:=bX0 H
           dsimp only at H
           have hc : ((rd_T55 t507 x12_2).f0 = 1 ∧ t538 = true ∧ t534.size + ((rd_T55 t507 x12_2).f2).size ≤ 9223372036854775807 ∧ t537.toList = (t534 ++ ((rd_T55 t507 x12_2).f2)).toList ∧ (laws_FnActs.l0 k2 t507 t510 t511 t518 (wrap64 (x12_2 + 1)) t504 t515 t528) = some r) ∨ ((rd_T55 t507 x12_2).f0 = 4 ∧ t538 = false ∧ (laws_FnActs.l0 k2 t507 t510 t511 t518 (wrap64 (x12_2 + 1)) t504 t515 t528) = some r) ∨ (¬ (rd_T55 t507 x12_2).f0 = 1 ∧ ¬ (rd_T55 t507 x12_2).f0 = 4 ∧ (laws_FnActs.l0 k2 t507 t510 t511 t518 (wrap64 (x12_2 + 1)) t504 t515 t528) = some r):=by
            rw [hrt] at H ⊢
            split at H
            ·rename_i q1_
             split at H
             ·rename_i q2_
              split at H
              ·rename_i q3_
               split at H
               ·rename_i q4_
                rw [if_neg (by omega)] at H
                exact .inl ⟨q1_,q2_,q3_,q4_,H⟩
               ·exact absurd H (by simp)
              ·exact absurd H (by simp)
             ·exact absurd H (by simp)
            ·rename_i q1_
             split at H
             ·rename_i q2_
              split at H
              ·exact absurd H (by simp)
              ·rename_i q3_
               exact .inr (.inl ⟨q2_,by simpa using q3_,H⟩)
             ·rename_i q2_
              exact .inr (.inr ⟨q1_,q2_,H⟩)
           clear H
           rcases hc with ⟨c49,c50,c51,c52,H⟩ | ⟨c49,c50,H⟩ | ⟨c49,c53,H⟩
           have c49b0 : ((rd_T55 t507 x12_2).f0 == 1) = true:=beq_iff_eq.mpr c49
           have c49b1 : ((rd_T55 t507 x12_2).f0 != 1) = false:=bne_eq_false_iff_eq.mpr c49
           have c53b0 : ((rd_T55 t507 x12_2).f0 == 4) = false:=by rw [c49];rfl
           have c53b1 : ((rd_T55 t507 x12_2).f0 != 4) = true:=by rw [c49];rfl
           subst c50
           have c51b0:=eq_true c51
           have c51b1 : decide (t534.size + ((rd_T55 t507 x12_2).f2).size ≤ 9223372036854775807) = true:=decide_eq_true c51
           try have c51b2 : (9223372036854775807 < t534.size + ((rd_T55 t507 x12_2).f2).size) = False:=eq_false (Nat.not_lt.2 c51)
           have c52b0 : (t537.toList == (t534 ++ ((rd_T55 t507 x12_2).f2)).toList) = true:=beq_iff_eq.mpr c52
           have c52b1 : (t537.toList != (t534 ++ ((rd_T55 t507 x12_2).f2)).toList) = false:=bne_eq_false_iff_eq.mpr c52
           clear c49 c52
           rotate_left
           have c49b0 : ((rd_T55 t507 x12_2).f0 == 1) = false:=by rw [c49];rfl
           have c49b1 : ((rd_T55 t507 x12_2).f0 != 1) = true:=by rw [c49];rfl
           have c53b0 : ((rd_T55 t507 x12_2).f0 == 4) = true:=beq_iff_eq.mpr c49
           have c53b1 : ((rd_T55 t507 x12_2).f0 != 4) = false:=bne_eq_false_iff_eq.mpr c49
           subst c50
           clear c49
           rotate_left
           have c49b0 : ((rd_T55 t507 x12_2).f0 == 1) = false:=beq_eq_false_iff_ne.mpr c49
           have c49b1 : ((rd_T55 t507 x12_2).f0 != 1) = true:=bne_iff_ne.mpr c49
           have c53b0 : ((rd_T55 t507 x12_2).f0 == 4) = false:=beq_eq_false_iff_ne.mpr c53
           have c53b1 : ((rd_T55 t507 x12_2).f0 != 4) = true:=bne_iff_ne.mpr c53
           clear c49 c53
           rotate_left
           all_goals
            have H':=Aside0.mk H
            clear H
            obtain ⟨Ao66,co66,eo66⟩:=Kd.R_slice HO_527000.out
            subst eo66
            try go_wp2
            replace HO_4:=Aside0.mk (Kd.R_drew HO_4.out)
            replace HO_6:=Aside0.mk (Kd.R_drew HO_6.out)
            replace HO_515000:=Aside0.mk (Kd.R_drew HO_515000.out)
            replace HO_520000:=Aside0.mk (Kd.R_drew HO_520000.out)
            replace HO_525000:=Aside0.mk (Kd.R_drew HO_525000.out)
            replace HO_527000:=Aside0.mk (Kd.R_drew HO_527000.out)
            replace BK514:=Aside0.mk (blk_drew BK514.out)
            replace BK519:=Aside0.mk (blk_drew BK519.out)
            replace BK524:=Aside0.mk (blk_drew BK524.out)
            replace BK526:=Aside0.mk (blk_drew BK526.out)
            replace HB:=Aside0.mk (below_drew1 HB.out)
            have p527 : 0 ≤ (x12_2 : Int):=zD0
            have q527 : x12_2 < (t507.length : Int):=zD0
            obtain ⟨ad527,e527,hx527_0,hx527_1,hx527_2,hx527_3⟩:=at_T55 (Kd.R_reads' HO_4.out).2.2 x12_2 p527 q527
            cases e527
            replace p527:=eq_true p527
            replace q527:=eq_true q527
            refine start_ (n:=12) (S:=fun w' => w'.cell? ⟨gb526,0,none⟩ = some (.slice Ao66 x527000_2.length co66) ∧ w'.cell? (ad527.add ((x12_2).toNat * 4)) = some (.int .i64 ((rd_T55 t507 x12_2).f0)) ∧ w'.cell? ⟨(ad527.add ((x12_2).toNat * 4)).block,(ad527.add ((x12_2).toNat * 4)).off + 1,none⟩ = some (.string ((rd_T55 t507 x12_2).f1)) ∧ w'.cell? ⟨(ad527.add ((x12_2).toNat * 4)).block,(ad527.add ((x12_2).toNat * 4)).off + 2,none⟩ = some (.string ((rd_T55 t507 x12_2).f2)) ∧ w'.cell? ⟨(ad527.add ((x12_2).toNat * 4)).block,(ad527.add ((x12_2).toNat * 4)).off + 3,none⟩ = some (.string ((rd_T55 t507 x12_2).f3))) (ds:=[]) (zF0 12 0) (by kernel_rfl) rfl rfl ⟨zc00 BK526,hx527_0,hx527_1,hx527_2,hx527_3⟩ (fun hHeld => ?_);refine with_tabW laws_FnActs.tab12 laws_FnActs.bits12 (fun HT_ HW_ => ?_)
            generalize wr.drew = w67 at HO_4 HO_6 HO_515000 HO_520000 HO_525000 HO_527000 BK514 BK519 BK524 BK526 HB hx527_0 hx527_1 hx527_2 hx527_3 hHeld ⊢
            refine zp0 1 61 12 2 HT_ ?_
            refine zp0 2 62 12 6 HT_ ?_
            refine zp0 3 63 12 14 HT_ ?_
            refine zt0 0 60 12 15 HT_ HW_ hHeld ?_
            refine zt0 4 64 12 31 HT_ HW_ hHeld ?_
            refine join_ (σ:=Value × Nat) 2 (zF0 12 1023) (fun s_ => [(65,.tuple #[.agg #[s_.1],.bool true]),(13,.pointer (some ⟨s_.2,0,none⟩)),(59,.tuple #[.agg #[s_.1],.bool true]),(66,.agg #[s_.1]),(67,.bool true)]) (fun s_ w' => (w'.cell? ⟨gb526,0,none⟩ = some (.slice Ao66 x527000_2.length co66) ∧ w'.cell? (ad527.add ((x12_2).toNat * 4)) = some (.int .i64 ((rd_T55 t507 x12_2).f0)) ∧ w'.cell? ⟨(ad527.add ((x12_2).toNat * 4)).block,(ad527.add ((x12_2).toNat * 4)).off + 1,none⟩ = some (.string ((rd_T55 t507 x12_2).f1)) ∧ w'.cell? ⟨(ad527.add ((x12_2).toNat * 4)).block,(ad527.add ((x12_2).toNat * 4)).off + 2,none⟩ = some (.string ((rd_T55 t507 x12_2).f2)) ∧ w'.cell? ⟨(ad527.add ((x12_2).toNat * 4)).block,(ad527.add ((x12_2).toNat * 4)).off + 3,none⟩ = some (.string ((rd_T55 t507 x12_2).f3))) ∧ (Kd.R k45 45 w' w.heap.size (fun k_ => some k_ ≠ (.slice Ao10 t504.length co10 : Value).ownBlock ∧ some k_ ≠ (.slice Ao15 t515.length co15 : Value).ownBlock ∧ some k_ ≠ (.slice Ao21 t520.length co21 : Value).ownBlock ∧ some k_ ≠ (.slice Ao66 x527000_2.length co66 : Value).ownBlock) s_.1 t528) ∧ (Kd.R k55 55 w' w.heap.size (fun _ => True) (.slice (some ad527) t507.length co12) t507) ∧ (Kd.R k45 45 w' w.heap.size (fun k_ => some k_ ≠ (s_.1 : Value).ownBlock ∧ some k_ ≠ (.slice Ao15 t515.length co15 : Value).ownBlock ∧ some k_ ≠ (.slice Ao21 t520.length co21 : Value).ownBlock) (.slice Ao10 t504.length co10) t504) ∧ (Kd.R k45 45 w' w.heap.size (fun k_ => some k_ ≠ (s_.1 : Value).ownBlock ∧ some k_ ≠ (.slice Ao10 t504.length co10 : Value).ownBlock ∧ some k_ ≠ (.slice Ao21 t520.length co21 : Value).ownBlock ∧ some k_ ≠ (.slice Ao66 x527000_2.length co66 : Value).ownBlock) (.slice Ao15 t515.length co15) t515) ∧ (Kd.R k45 45 w' w.heap.size (fun k_ => some k_ ≠ (s_.1 : Value).ownBlock ∧ some k_ ≠ (.slice Ao10 t504.length co10 : Value).ownBlock ∧ some k_ ≠ (.slice Ao15 t515.length co15 : Value).ownBlock ∧ some k_ ≠ (.slice Ao66 x527000_2.length co66 : Value).ownBlock) (.slice Ao21 t520.length co21) t520) ∧ (Kd.R k45 45 w' w.heap.size (fun k_ => some k_ ≠ (s_.1 : Value).ownBlock ∧ some k_ ≠ (.slice Ao15 t515.length co15 : Value).ownBlock ∧ some k_ ≠ (.slice Ao21 t520.length co21 : Value).ownBlock) (.slice Ao66 x527000_2.length co66) x527000_2) ∧ (Kd.R (Kd.int .i64) 3 w' w.heap.size (fun _ => True) v512 t511) ∧ (w'.heap[gb514]? = some (.cells #[.slice Ao10 t504.length co10] 30 (0,0))) ∧ (w'.heap[gb519]? = some (.cells #[.slice Ao15 t515.length co15] 30 (0,0))) ∧ (w'.heap[gb524]? = some (.cells #[.slice Ao21 t520.length co21] 30 (0,0))) ∧ (w'.heap[gb526]? = some (.cells #[.slice Ao66 x527000_2.length co66] 30 (0,0))) ∧ (w'.heap[s_.2]? = some (.cells #[.slice none 0 0] 30 (0,0))) ∧ (w.heap.size ≤ s_.2) ∧ (w.heap.size ≤ s_.2) ∧ (gb514 ≠ s_.2) ∧ (s_.2 ≠ gb514) ∧ (gb519 ≠ s_.2) ∧ (s_.2 ≠ gb519) ∧ (gb524 ≠ s_.2) ∧ (s_.2 ≠ gb524) ∧ (gb526 ≠ s_.2) ∧ (s_.2 ≠ gb526) ∧ (Below w.heap.size w w')) ?_ ?_
            rotate_left
            ·intro hCont
             refine two_ (i:=5) (j:=9) (Ni:=some 65) (Nj:=some 13) (zF0 12 63) (zF0 12 543) rfl rfl rfl rfl (two_of HT_.out (by kernel_rfl)) (by decide) (by decide) (fun K hK => ?_) (fun K hK => ?_)
             ·skip
              refine goes_ Try.func38 (by kernel_rfl) rfl #[.agg #[.slice Ao66 x527000_2.length co66],.agg #[.int .i64 ((rd_T55 t507 x12_2).f0),.string ((rd_T55 t507 x12_2).f1),.string ((rd_T55 t507 x12_2).f2),.string ((rd_T55 t507 x12_2).f3)]] (by rfl) rfl rfl zM0 ?_
              with_reducible refine (impl_DoAct.calls k2 _ _ x527000_2 ((rd_T55 t507 x12_2).f0) ((rd_T55 t507 x12_2).f1) ((rd_T55 t507 x12_2).f2) ((rd_T55 t507 x12_2).f3) t528 true _ ?side1 ?side2 A45.out).mono ?_
              (case side1 => exact zA0 ((Kd.R_reads' HO_527000.out).2.2))
              (case side2 => exact (Kd.R_reads' HO_527000.out).2.1)
              rintro e w68 ⟨v529,rfl,ho0,hb⟩
              have HS1_:=(hb.cell (World.block_lt_of_cell? _ _ (hHeld.2.1))).trans (hHeld.2.1)
              have HS2_:=(hb.cell (World.block_lt_of_cell? _ _ (hHeld.2.2.1))).trans (hHeld.2.2.1)
              have HS3_:=(hb.cell (World.block_lt_of_cell? _ _ (hHeld.2.2.2.1))).trans (hHeld.2.2.2.1)
              have HS4_:=(hb.cell (World.block_lt_of_cell? _ _ (hHeld.2.2.2.2))).trans (hHeld.2.2.2.2)
              refine ⟨_,rfl,?_⟩
              replace HO_4:=Aside0.mk (Kd.R_below (zR0 HO_4.out) hb)
              replace HO_6:=Aside0.mk (Kd.R_below (zR0 HO_6.out) hb)
              have HO530:=Aside0.mk (Kd.R_lower (Kd.R_new' (Kd.R_new' (Kd.R_new' (Kd.R_new' ho0 (Kd.R_lt (zR0 HO_515000.out))) (Kd.R_lt (zR0 HO_520000.out))) (Kd.R_lt (zR0 HO_525000.out))) (Kd.R_lt (zR0 HO_527000.out))) (zZ0 HB.out))
              replace HO_515000:=Aside0.mk (Kd.R_elder' (zR0 HO_515000.out) (Kd.R_base ho0) hb)
              replace HO_520000:=Aside0.mk (Kd.R_elder' (zR0 HO_520000.out) (Kd.R_base ho0) hb)
              replace HO_525000:=Aside0.mk (Kd.R_elder' (zR0 HO_525000.out) (Kd.R_base ho0) hb)
              replace HO_527000:=Aside0.mk (Kd.R_elder' (zR0 HO_527000.out) (Kd.R_base ho0) hb)
              replace BK514:=zb0 BK514 hb
              replace BK519:=zb0 BK519 hb
              replace BK524:=zb0 BK524 hb
              replace BK526:=zb0 BK526 hb
              replace HB:=zs0 HB hb
              (try clear hb)
              (try clear hb2)
              (try clear hk)
              (try clear hi)
              (try clear ho0)
              refine hK.out _ _ ⟨zc00 BK526,HS1_,HS2_,HS3_,HS4_⟩ (fun hHeld => ?_)
              clear hK K
              refine norm_ (a':=?_) ?_ ?_;rotate_left
              ·show Act.put _ (some 65) _ = _;simp only [Act.put,qA0,qB0,qC0,i64_w,i32_w];rfl
              refine zp0 6 59 12 127 HT_ ?_
              refine zp0 7 66 12 255 HT_ ?_
              refine zp0 8 67 12 511 HT_ ?_
              refine one_ (i:=9) (N:=some 13) (zF0 12 1023) rfl rfl (one_of HT_.out (by kernel_rfl)) (by decide) (fun K hK => ?_)
              refine box_step ?hg (N:=13) ?hd (cs:=#[.slice none 0 0]) (t:=30) ?hr ?_;(case hd => rfl);(case hg => rfl);(case hr => first | (go_simp;done) | (go_simp;rfl))
              intro gb532 hg w69 hbox hb
              have HS1_:=(hb.cell (World.block_lt_of_cell? _ _ (hHeld.2.1))).trans (hHeld.2.1)
              have HS2_:=(hb.cell (World.block_lt_of_cell? _ _ (hHeld.2.2.1))).trans (hHeld.2.2.1)
              have HS3_:=(hb.cell (World.block_lt_of_cell? _ _ (hHeld.2.2.2.1))).trans (hHeld.2.2.2.1)
              have HS4_:=(hb.cell (World.block_lt_of_cell? _ _ (hHeld.2.2.2.2))).trans (hHeld.2.2.2.2)
              replace HO_4:=Aside0.mk (Kd.R_below (zR0 HO_4.out) hb)
              replace HO_6:=Aside0.mk (Kd.R_below (zR0 HO_6.out) hb)
              replace HO_515000:=Aside0.mk (Kd.R_below (zR0 HO_515000.out) hb)
              replace HO_520000:=Aside0.mk (Kd.R_below (zR0 HO_520000.out) hb)
              replace HO_525000:=Aside0.mk (Kd.R_below (zR0 HO_525000.out) hb)
              replace HO_527000:=Aside0.mk (Kd.R_below (zR0 HO_527000.out) hb)
              replace HO530:=Aside0.mk (Kd.R_below (zR0 HO530.out) hb)
              have BK532:=Aside0.mk hbox
              have GW532:=zz0 hg HB
              have GE532:=zz0 hg HB
              replace HB:=zs0 HB hb
              have NB514_532:=zl0 hg BK514
              have NB532_514:=zg0 hg BK514
              replace BK514:=zb0 BK514 hb
              have NB519_532:=zl0 hg BK519
              have NB532_519:=zg0 hg BK519
              replace BK519:=zb0 BK519 hb
              have NB524_532:=zl0 hg BK524
              have NB532_524:=zg0 hg BK524
              replace BK524:=zb0 BK524 hb
              have NB526_532:=zl0 hg BK526
              have NB532_526:=zg0 hg BK526
              replace BK526:=zb0 BK526 hb
              clear hb hbox hg
              refine hK.out _ _ ⟨zc00 BK526,HS1_,HS2_,HS3_,HS4_⟩ (fun hHeld => ?_)
              clear hK K
              refine norm_ (a':=?_) ?_ ?_;rotate_left
              ·show Act.put _ (some 13) _ = _;simp only [Act.put,qA0,qB0,qC0,i64_w,i32_w];rfl
              exact norm_ (by simp only [putAll,Act.put,qA0,qB0,qC0]) (hCont (v529,gb532) _ ⟨hHeld,(by refine zV0 ?_;exact Kd.R_mono HO530.out (fun _ hk => ⟨hk.1.1.1.2,⟨hk.1.1.2,⟨hk.1.2,hk.2⟩⟩⟩)),(zR0 HO_4.out),(by refine zV0 ?_;exact Kd.R_mono HO_515000.out (fun _ hk => ⟨hk.2,⟨hk.1.1,hk.1.2⟩⟩)),(by refine zV0 ?_;exact Kd.R_mono HO_520000.out (fun _ hk => ⟨hk.2,⟨hk.1.1,⟨hk.1.2.1,hk.1.2.2⟩⟩⟩)),(by refine zV0 ?_;exact Kd.R_mono HO_525000.out (fun _ hk => ⟨hk.2,⟨hk.1.1,⟨hk.1.2.1,hk.1.2.2⟩⟩⟩)),(by refine zV0 ?_;exact Kd.R_mono HO_527000.out (fun _ hk => ⟨hk.2,⟨hk.1.1,hk.1.2⟩⟩)),(zR0 HO_6.out),(zK0 BK514.out),(zK0 BK519.out),(zK0 BK524.out),(zK0 BK526.out),(zK0 BK532.out),GW532.out,GE532.out,NB514_532.out,NB532_514.out,NB519_532.out,NB532_519.out,NB524_532.out,NB532_524.out,NB526_532.out,NB532_526.out,(zY0 HB.out)⟩)
             ·skip
              refine box_step ?hg (N:=13) ?hd (cs:=#[.slice none 0 0]) (t:=30) ?hr ?_;(case hd => rfl);(case hg => rfl);(case hr => first | (go_simp;done) | (go_simp;rfl))
              intro gb532 hg w68 hbox hb
              have HS1_:=(hb.cell (World.block_lt_of_cell? _ _ (hHeld.2.1))).trans (hHeld.2.1)
              have HS2_:=(hb.cell (World.block_lt_of_cell? _ _ (hHeld.2.2.1))).trans (hHeld.2.2.1)
              have HS3_:=(hb.cell (World.block_lt_of_cell? _ _ (hHeld.2.2.2.1))).trans (hHeld.2.2.2.1)
              have HS4_:=(hb.cell (World.block_lt_of_cell? _ _ (hHeld.2.2.2.2))).trans (hHeld.2.2.2.2)
              replace HO_4:=Aside0.mk (Kd.R_below (zR0 HO_4.out) hb)
              replace HO_6:=Aside0.mk (Kd.R_below (zR0 HO_6.out) hb)
              replace HO_515000:=Aside0.mk (Kd.R_below (zR0 HO_515000.out) hb)
              replace HO_520000:=Aside0.mk (Kd.R_below (zR0 HO_520000.out) hb)
              replace HO_525000:=Aside0.mk (Kd.R_below (zR0 HO_525000.out) hb)
              replace HO_527000:=Aside0.mk (Kd.R_below (zR0 HO_527000.out) hb)
              have BK532:=Aside0.mk hbox
              have GW532:=zz0 hg HB
              have GE532:=zz0 hg HB
              replace HB:=zs0 HB hb
              have NB514_532:=zl0 hg BK514
              have NB532_514:=zg0 hg BK514
              replace BK514:=zb0 BK514 hb
              have NB519_532:=zl0 hg BK519
              have NB532_519:=zg0 hg BK519
              replace BK519:=zb0 BK519 hb
              have NB524_532:=zl0 hg BK524
              have NB532_524:=zg0 hg BK524
              replace BK524:=zb0 BK524 hb
              have NB526_532:=zl0 hg BK526
              have NB532_526:=zg0 hg BK526
              replace BK526:=zb0 BK526 hb
              clear hb hbox hg
              refine hK.out _ _ ⟨zc00 BK526,HS1_,HS2_,HS3_,HS4_⟩ (fun hHeld => ?_)
              clear hK K
              refine norm_ (a':=?_) ?_ ?_;rotate_left
              ·show Act.put _ (some 13) _ = _;simp only [Act.put,qA0,qB0,qC0,i64_w,i32_w];rfl
              refine one_ (i:=5) (N:=some 65) (zF0 12 575) rfl rfl (one_of HT_.out (by kernel_rfl)) (by decide) (fun K hK => ?_)
              refine goes_ Try.func38 (by kernel_rfl) rfl #[.agg #[.slice Ao66 x527000_2.length co66],.agg #[.int .i64 ((rd_T55 t507 x12_2).f0),.string ((rd_T55 t507 x12_2).f1),.string ((rd_T55 t507 x12_2).f2),.string ((rd_T55 t507 x12_2).f3)]] (by rfl) rfl rfl zM0 ?_
              with_reducible refine (impl_DoAct.calls k2 _ _ x527000_2 ((rd_T55 t507 x12_2).f0) ((rd_T55 t507 x12_2).f1) ((rd_T55 t507 x12_2).f2) ((rd_T55 t507 x12_2).f3) t528 true _ ?side1 ?side2 A45.out).mono ?_
              (case side1 => exact zA0 ((Kd.R_reads' HO_527000.out).2.2))
              (case side2 => exact (Kd.R_reads' HO_527000.out).2.1)
              rintro e w69 ⟨v529,rfl,ho0,hb⟩
              have HS1_:=(hb.cell (World.block_lt_of_cell? _ _ (hHeld.2.1))).trans (hHeld.2.1)
              have HS2_:=(hb.cell (World.block_lt_of_cell? _ _ (hHeld.2.2.1))).trans (hHeld.2.2.1)
              have HS3_:=(hb.cell (World.block_lt_of_cell? _ _ (hHeld.2.2.2.1))).trans (hHeld.2.2.2.1)
              have HS4_:=(hb.cell (World.block_lt_of_cell? _ _ (hHeld.2.2.2.2))).trans (hHeld.2.2.2.2)
              refine ⟨_,rfl,?_⟩
              replace HO_4:=Aside0.mk (Kd.R_below (zR0 HO_4.out) hb)
              replace HO_6:=Aside0.mk (Kd.R_below (zR0 HO_6.out) hb)
              have HO530:=Aside0.mk (Kd.R_lower (Kd.R_new' (Kd.R_new' (Kd.R_new' (Kd.R_new' ho0 (Kd.R_lt (zR0 HO_515000.out))) (Kd.R_lt (zR0 HO_520000.out))) (Kd.R_lt (zR0 HO_525000.out))) (Kd.R_lt (zR0 HO_527000.out))) (zZ0 HB.out))
              replace HO_515000:=Aside0.mk (Kd.R_elder' (zR0 HO_515000.out) (Kd.R_base ho0) hb)
              replace HO_520000:=Aside0.mk (Kd.R_elder' (zR0 HO_520000.out) (Kd.R_base ho0) hb)
              replace HO_525000:=Aside0.mk (Kd.R_elder' (zR0 HO_525000.out) (Kd.R_base ho0) hb)
              replace HO_527000:=Aside0.mk (Kd.R_elder' (zR0 HO_527000.out) (Kd.R_base ho0) hb)
              replace BK514:=zb0 BK514 hb
              replace BK519:=zb0 BK519 hb
              replace BK524:=zb0 BK524 hb
              replace BK526:=zb0 BK526 hb
              replace BK532:=zb0 BK532 hb
              replace HB:=zs0 HB hb
              (try clear hb)
              (try clear hb2)
              (try clear hk)
              (try clear hi)
              (try clear ho0)
              refine hK.out _ _ ⟨zc00 BK526,HS1_,HS2_,HS3_,HS4_⟩ (fun hHeld => ?_)
              clear hK K
              refine norm_ (a':=?_) ?_ ?_;rotate_left
              ·show Act.put _ (some 65) _ = _;simp only [Act.put,qA0,qB0,qC0,i64_w,i32_w];rfl
              refine zp0 6 59 12 639 HT_ ?_
              refine zp0 7 66 12 767 HT_ ?_
              refine zp0 8 67 12 1023 HT_ ?_
              exact norm_ (by simp only [putAll,Act.put,qA0,qB0,qC0]) (hCont (v529,gb532) _ ⟨hHeld,(by refine zV0 ?_;exact Kd.R_mono HO530.out (fun _ hk => ⟨hk.1.1.1.2,⟨hk.1.1.2,⟨hk.1.2,hk.2⟩⟩⟩)),(zR0 HO_4.out),(by refine zV0 ?_;exact Kd.R_mono HO_515000.out (fun _ hk => ⟨hk.2,⟨hk.1.1,hk.1.2⟩⟩)),(by refine zV0 ?_;exact Kd.R_mono HO_520000.out (fun _ hk => ⟨hk.2,⟨hk.1.1,⟨hk.1.2.1,hk.1.2.2⟩⟩⟩)),(by refine zV0 ?_;exact Kd.R_mono HO_525000.out (fun _ hk => ⟨hk.2,⟨hk.1.1,⟨hk.1.2.1,hk.1.2.2⟩⟩⟩)),(by refine zV0 ?_;exact Kd.R_mono HO_527000.out (fun _ hk => ⟨hk.2,⟨hk.1.1,hk.1.2⟩⟩)),(zR0 HO_6.out),(zK0 BK514.out),(zK0 BK519.out),(zK0 BK524.out),(zK0 BK526.out),(zK0 BK532.out),GW532.out,GE532.out,NB514_532.out,NB532_514.out,NB519_532.out,NB532_519.out,NB524_532.out,NB532_524.out,NB526_532.out,NB532_526.out,(zY0 HB.out)⟩)
            rintro ⟨v529,gb532⟩ w70 ⟨hS_,h0_,h1_,h2_,h3_,h4_,h5_,h6_,h7_,h8_,h9_,h10_,h11_,h12_,h13_,h14_,h15_,h16_,h17_,h18_,h19_,h20_,h21_,h22_⟩
            have n0_ : Aside0 (Kd.R k45 45 w70 w.heap.size (fun k_ => some k_ ≠ (.slice Ao10 t504.length co10 : Value).ownBlock ∧ some k_ ≠ (.slice Ao15 t515.length co15 : Value).ownBlock ∧ some k_ ≠ (.slice Ao21 t520.length co21 : Value).ownBlock ∧ some k_ ≠ (.slice Ao66 x527000_2.length co66 : Value).ownBlock) v529 t528):=⟨h0_⟩
            have n1_ : Aside0 (Kd.R k55 55 w70 w.heap.size (fun _ => True) (.slice (some ad527) t507.length co12) t507):=⟨h1_⟩
            have n2_ : Aside0 (Kd.R k45 45 w70 w.heap.size (fun k_ => some k_ ≠ (v529 : Value).ownBlock ∧ some k_ ≠ (.slice Ao15 t515.length co15 : Value).ownBlock ∧ some k_ ≠ (.slice Ao21 t520.length co21 : Value).ownBlock) (.slice Ao10 t504.length co10) t504):=⟨h2_⟩
            have n3_ : Aside0 (Kd.R k45 45 w70 w.heap.size (fun k_ => some k_ ≠ (v529 : Value).ownBlock ∧ some k_ ≠ (.slice Ao10 t504.length co10 : Value).ownBlock ∧ some k_ ≠ (.slice Ao21 t520.length co21 : Value).ownBlock ∧ some k_ ≠ (.slice Ao66 x527000_2.length co66 : Value).ownBlock) (.slice Ao15 t515.length co15) t515):=⟨h3_⟩
            have n4_ : Aside0 (Kd.R k45 45 w70 w.heap.size (fun k_ => some k_ ≠ (v529 : Value).ownBlock ∧ some k_ ≠ (.slice Ao10 t504.length co10 : Value).ownBlock ∧ some k_ ≠ (.slice Ao15 t515.length co15 : Value).ownBlock ∧ some k_ ≠ (.slice Ao66 x527000_2.length co66 : Value).ownBlock) (.slice Ao21 t520.length co21) t520):=⟨h4_⟩
            have n5_ : Aside0 (Kd.R k45 45 w70 w.heap.size (fun k_ => some k_ ≠ (v529 : Value).ownBlock ∧ some k_ ≠ (.slice Ao15 t515.length co15 : Value).ownBlock ∧ some k_ ≠ (.slice Ao21 t520.length co21 : Value).ownBlock) (.slice Ao66 x527000_2.length co66) x527000_2):=⟨h5_⟩
            have n6_ : Aside0 (Kd.R (Kd.int .i64) 3 w70 w.heap.size (fun _ => True) v512 t511):=⟨h6_⟩
            have n7_ : Aside0 (w70.heap[gb514]? = some (.cells #[.slice Ao10 t504.length co10] 30 (0,0))):=⟨h7_⟩
            have n8_ : Aside0 (w70.heap[gb519]? = some (.cells #[.slice Ao15 t515.length co15] 30 (0,0))):=⟨h8_⟩
            have n9_ : Aside0 (w70.heap[gb524]? = some (.cells #[.slice Ao21 t520.length co21] 30 (0,0))):=⟨h9_⟩
            have n10_ : Aside0 (w70.heap[gb526]? = some (.cells #[.slice Ao66 x527000_2.length co66] 30 (0,0))):=⟨h10_⟩
            have n11_ : Aside0 (w70.heap[gb532]? = some (.cells #[.slice none 0 0] 30 (0,0))):=⟨h11_⟩
            have n12_ : Aside0 (w.heap.size ≤ gb532):=⟨h12_⟩
            have n13_ : Aside0 (w.heap.size ≤ gb532):=⟨h13_⟩
            have n14_ : Aside0 (gb514 ≠ gb532):=⟨h14_⟩
            have n15_ : Aside0 (gb532 ≠ gb514):=⟨h15_⟩
            have n16_ : Aside0 (gb519 ≠ gb532):=⟨h16_⟩
            have n17_ : Aside0 (gb532 ≠ gb519):=⟨h17_⟩
            have n18_ : Aside0 (gb524 ≠ gb532):=⟨h18_⟩
            have n19_ : Aside0 (gb532 ≠ gb524):=⟨h19_⟩
            have n20_ : Aside0 (gb526 ≠ gb532):=⟨h20_⟩
            have n21_ : Aside0 (gb532 ≠ gb526):=⟨h21_⟩
            have n22_ : Aside0 (Below w.heap.size w w70):=⟨h22_⟩
            clear HO_4 HO_6 HO_515000 HO_520000 HO_525000 HO_527000 BK514 BK519 BK524 BK526 HB
            clear h0_ h1_ h2_ h3_ h4_ h5_ h6_ h7_ h8_ h9_ h10_ h11_ h12_ h13_ h14_ h15_ h16_ h17_ h18_ h19_ h20_ h21_ h22_
            have HO530:=n0_
            have HO_4:=n1_
            have HO_515000:=n2_
            have HO_520000:=n3_
            have HO_525000:=n4_
            have HO_527000:=n5_
            have HO_6:=n6_
            have BK514:=n7_
            have BK519:=n8_
            have BK524:=n9_
            have BK526:=n10_
            have BK532:=n11_
            have GW532:=n12_
            have GE532:=n13_
            have NB514_532:=n14_
            have NB532_514:=n15_
            have NB519_532:=n16_
            have NB532_519:=n17_
            have NB524_532:=n18_
            have NB532_524:=n19_
            have NB526_532:=n20_
            have NB532_526:=n21_
            have HB:=n22_
            clear n0_ n1_ n2_ n3_ n4_ n5_ n6_ n7_ n8_ n9_ n10_ n11_ n12_ n13_ n14_ n15_ n16_ n17_ n18_ n19_ n20_ n21_ n22_
            have hHeld : w70.cell? ⟨gb526,0,none⟩ = some (.slice Ao66 x527000_2.length co66) ∧ w70.cell? (ad527.add ((x12_2).toNat * 4)) = some (.int .i64 ((rd_T55 t507 x12_2).f0)) ∧ w70.cell? ⟨(ad527.add ((x12_2).toNat * 4)).block,(ad527.add ((x12_2).toNat * 4)).off + 1,none⟩ = some (.string ((rd_T55 t507 x12_2).f1)) ∧ w70.cell? ⟨(ad527.add ((x12_2).toNat * 4)).block,(ad527.add ((x12_2).toNat * 4)).off + 2,none⟩ = some (.string ((rd_T55 t507 x12_2).f2)) ∧ w70.cell? ⟨(ad527.add ((x12_2).toNat * 4)).block,(ad527.add ((x12_2).toNat * 4)).off + 3,none⟩ = some (.string ((rd_T55 t507 x12_2).f3)):=hS_
            obtain ⟨Ao71,co71,eo71⟩:=Kd.R_slice HO530.out
            (first | subst eo71 | (injection eo71 with f1_ f2_ f3_;have f4_:=f1_.symm;have f5_:=f3_.symm;clear f1_ f2_ f3_;subst f4_;subst f5_))
            refine norm_ (a':=?_) ?_ ?_;rotate_left
            ·simp only [putAll,Act.put,qA0,qB0,qC0]
             rfl
            refine one_ (i:=10) (N:=none) (zF0 12 2047) rfl rfl (one_of HT_.out (by kernel_rfl)) (by decide) (fun K hK => ?_)
            have hs72 : w70.cell? ⟨gb532,0,none⟩ = some (.slice none 0 0):=zc00 BK532
            have hfs72:=blk_frozen BK532.out 0
            have hns72_0:=NB514_532.out
            have hns72_1:=NB519_532.out
            have hns72_2:=NB524_532.out
            have hns72_3:=NB526_532.out
            have hms72_0:=NB532_514.out
            have hms72_1:=NB532_519.out
            have hms72_2:=NB532_524.out
            have hms72_3:=NB532_526.out
            refine skip_ (w1:=?_) (by rfl) rfl ?_ ?_;rotate_left
            ·go_simp
             rfl
            refine hK.out _ _ ⟨((cell_far (p:=⟨gb532,_,none⟩) NB526_532.out _).trans (hHeld.1)),((cell_far (p:=⟨gb532,_,none⟩) (by first | exact Kd.own_blk (by first | exact Kd.R_ne HO_4.out BK532.out (by decide) | exact Kd.R_away HO_4.out (fun _ hk => hk) | exact Kd.R_away HO_4.out (fun _ hk => hk.2) | exact Kd.R_away HO_4.out (fun _ hk => hk.1.2) | exact Kd.R_away HO_4.out (fun _ hk => hk.2.2)) | (rw [add_block];exact Kd.own_blk (by first | exact Kd.R_ne HO_4.out BK532.out (by decide) | exact Kd.R_away HO_4.out (fun _ hk => hk) | exact Kd.R_away HO_4.out (fun _ hk => hk.2) | exact Kd.R_away HO_4.out (fun _ hk => hk.1.2) | exact Kd.R_away HO_4.out (fun _ hk => hk.2.2))) | (show (Addr.add _ _).block ≠ _;rw [add_block];exact Kd.own_blk (by first | exact Kd.R_ne HO_4.out BK532.out (by decide) | exact Kd.R_away HO_4.out (fun _ hk => hk) | exact Kd.R_away HO_4.out (fun _ hk => hk.2) | exact Kd.R_away HO_4.out (fun _ hk => hk.1.2) | exact Kd.R_away HO_4.out (fun _ hk => hk.2.2))) | (dsimp only;exact Kd.own_blk (by first | exact Kd.R_ne HO_4.out BK532.out (by decide) | exact Kd.R_away HO_4.out (fun _ hk => hk) | exact Kd.R_away HO_4.out (fun _ hk => hk.2) | exact Kd.R_away HO_4.out (fun _ hk => hk.1.2) | exact Kd.R_away HO_4.out (fun _ hk => hk.2.2)))) _).trans (hHeld.2.1)),((cell_far (p:=⟨gb532,_,none⟩) (by first | exact Kd.own_blk (by first | exact Kd.R_ne HO_4.out BK532.out (by decide) | exact Kd.R_away HO_4.out (fun _ hk => hk) | exact Kd.R_away HO_4.out (fun _ hk => hk.2) | exact Kd.R_away HO_4.out (fun _ hk => hk.1.2) | exact Kd.R_away HO_4.out (fun _ hk => hk.2.2)) | (rw [add_block];exact Kd.own_blk (by first | exact Kd.R_ne HO_4.out BK532.out (by decide) | exact Kd.R_away HO_4.out (fun _ hk => hk) | exact Kd.R_away HO_4.out (fun _ hk => hk.2) | exact Kd.R_away HO_4.out (fun _ hk => hk.1.2) | exact Kd.R_away HO_4.out (fun _ hk => hk.2.2))) | (show (Addr.add _ _).block ≠ _;rw [add_block];exact Kd.own_blk (by first | exact Kd.R_ne HO_4.out BK532.out (by decide) | exact Kd.R_away HO_4.out (fun _ hk => hk) | exact Kd.R_away HO_4.out (fun _ hk => hk.2) | exact Kd.R_away HO_4.out (fun _ hk => hk.1.2) | exact Kd.R_away HO_4.out (fun _ hk => hk.2.2))) | (dsimp only;exact Kd.own_blk (by first | exact Kd.R_ne HO_4.out BK532.out (by decide) | exact Kd.R_away HO_4.out (fun _ hk => hk) | exact Kd.R_away HO_4.out (fun _ hk => hk.2) | exact Kd.R_away HO_4.out (fun _ hk => hk.1.2) | exact Kd.R_away HO_4.out (fun _ hk => hk.2.2)))) _).trans (hHeld.2.2.1)),((cell_far (p:=⟨gb532,_,none⟩) (by first | exact Kd.own_blk (by first | exact Kd.R_ne HO_4.out BK532.out (by decide) | exact Kd.R_away HO_4.out (fun _ hk => hk) | exact Kd.R_away HO_4.out (fun _ hk => hk.2) | exact Kd.R_away HO_4.out (fun _ hk => hk.1.2) | exact Kd.R_away HO_4.out (fun _ hk => hk.2.2)) | (rw [add_block];exact Kd.own_blk (by first | exact Kd.R_ne HO_4.out BK532.out (by decide) | exact Kd.R_away HO_4.out (fun _ hk => hk) | exact Kd.R_away HO_4.out (fun _ hk => hk.2) | exact Kd.R_away HO_4.out (fun _ hk => hk.1.2) | exact Kd.R_away HO_4.out (fun _ hk => hk.2.2))) | (show (Addr.add _ _).block ≠ _;rw [add_block];exact Kd.own_blk (by first | exact Kd.R_ne HO_4.out BK532.out (by decide) | exact Kd.R_away HO_4.out (fun _ hk => hk) | exact Kd.R_away HO_4.out (fun _ hk => hk.2) | exact Kd.R_away HO_4.out (fun _ hk => hk.1.2) | exact Kd.R_away HO_4.out (fun _ hk => hk.2.2))) | (dsimp only;exact Kd.own_blk (by first | exact Kd.R_ne HO_4.out BK532.out (by decide) | exact Kd.R_away HO_4.out (fun _ hk => hk) | exact Kd.R_away HO_4.out (fun _ hk => hk.2) | exact Kd.R_away HO_4.out (fun _ hk => hk.1.2) | exact Kd.R_away HO_4.out (fun _ hk => hk.2.2)))) _).trans (hHeld.2.2.2.1)),((cell_far (p:=⟨gb532,_,none⟩) (by first | exact Kd.own_blk (by first | exact Kd.R_ne HO_4.out BK532.out (by decide) | exact Kd.R_away HO_4.out (fun _ hk => hk) | exact Kd.R_away HO_4.out (fun _ hk => hk.2) | exact Kd.R_away HO_4.out (fun _ hk => hk.1.2) | exact Kd.R_away HO_4.out (fun _ hk => hk.2.2)) | (rw [add_block];exact Kd.own_blk (by first | exact Kd.R_ne HO_4.out BK532.out (by decide) | exact Kd.R_away HO_4.out (fun _ hk => hk) | exact Kd.R_away HO_4.out (fun _ hk => hk.2) | exact Kd.R_away HO_4.out (fun _ hk => hk.1.2) | exact Kd.R_away HO_4.out (fun _ hk => hk.2.2))) | (show (Addr.add _ _).block ≠ _;rw [add_block];exact Kd.own_blk (by first | exact Kd.R_ne HO_4.out BK532.out (by decide) | exact Kd.R_away HO_4.out (fun _ hk => hk) | exact Kd.R_away HO_4.out (fun _ hk => hk.2) | exact Kd.R_away HO_4.out (fun _ hk => hk.1.2) | exact Kd.R_away HO_4.out (fun _ hk => hk.2.2))) | (dsimp only;exact Kd.own_blk (by first | exact Kd.R_ne HO_4.out BK532.out (by decide) | exact Kd.R_away HO_4.out (fun _ hk => hk) | exact Kd.R_away HO_4.out (fun _ hk => hk.2) | exact Kd.R_away HO_4.out (fun _ hk => hk.1.2) | exact Kd.R_away HO_4.out (fun _ hk => hk.2.2)))) _).trans (hHeld.2.2.2.2))⟩ (fun hHeld => ?_)
            clear hK K
            refine zp0 11 14 12 4095 HT_ ?_
            refine done_ (done_of HT_.out (by kernel_rfl)) ?_
            try go_wp2
            have n0_ : Aside0 (Kd.R k55 55 (w70.setCell ⟨gb532,0,none⟩ (.slice Ao71 t528.length co71)) w.heap.size (fun _ => True) (.slice (some ad527) t507.length co12) t507):=⟨by refine zV0 ?_;exact Kd.R_mono (Kd.R_far (p:=⟨gb532,0,none⟩) (Kd.R_types HO_4.out BK532.out (by decide)) (fun _ hk => hk.2) (.slice Ao71 t528.length co71)) (fun _ hk => trivial)⟩
            have n1_ : Aside0 (Kd.R (Kd.int .i64) 3 (w70.setCell ⟨gb532,0,none⟩ (.slice Ao71 t528.length co71)) w.heap.size (fun _ => True) v512 t511):=⟨by refine zV0 ?_;exact Kd.R_mono (Kd.R_far (p:=⟨gb532,0,none⟩) (Kd.R_types HO_6.out BK532.out (by decide)) (fun _ hk => hk.2) (.slice Ao71 t528.length co71)) (fun _ hk => trivial)⟩
            have n2_ : Aside0 (Kd.R k45 45 (w70.setCell ⟨gb532,0,none⟩ (.slice Ao71 t528.length co71)) w.heap.size (fun k_ => some k_ ≠ (.slice Ao15 t515.length co15 : Value).ownBlock ∧ some k_ ≠ (.slice Ao21 t520.length co21 : Value).ownBlock ∧ some k_ ≠ (.slice Ao71 t528.length co71 : Value).ownBlock) (.slice Ao10 t504.length co10) t504):=⟨by refine zV0 ?_;exact Kd.R_mono (Kd.R_far (p:=⟨gb532,0,none⟩) (Kd.R_types HO_515000.out BK532.out (by decide)) (fun _ hk => hk.2) (.slice Ao71 t528.length co71)) (fun _ hk => ⟨hk.1.2.1,⟨hk.1.2.2,hk.1.1⟩⟩)⟩
            have n3_ : Aside0 (Kd.R k45 45 (w70.setCell ⟨gb532,0,none⟩ (.slice Ao71 t528.length co71)) w.heap.size (fun k_ => some k_ ≠ (.slice Ao10 t504.length co10 : Value).ownBlock ∧ some k_ ≠ (.slice Ao21 t520.length co21 : Value).ownBlock ∧ some k_ ≠ (.slice Ao66 x527000_2.length co66 : Value).ownBlock ∧ some k_ ≠ (.slice Ao71 t528.length co71 : Value).ownBlock) (.slice Ao15 t515.length co15) t515):=⟨by refine zV0 ?_;exact Kd.R_mono (Kd.R_far (p:=⟨gb532,0,none⟩) (Kd.R_types HO_520000.out BK532.out (by decide)) (fun _ hk => hk.2) (.slice Ao71 t528.length co71)) (fun _ hk => ⟨hk.1.2.1,⟨hk.1.2.2.1,⟨hk.1.2.2.2,hk.1.1⟩⟩⟩)⟩
            have n4_ : Aside0 (Kd.R k45 45 (w70.setCell ⟨gb532,0,none⟩ (.slice Ao71 t528.length co71)) w.heap.size (fun k_ => some k_ ≠ (.slice Ao10 t504.length co10 : Value).ownBlock ∧ some k_ ≠ (.slice Ao15 t515.length co15 : Value).ownBlock ∧ some k_ ≠ (.slice Ao66 x527000_2.length co66 : Value).ownBlock ∧ some k_ ≠ (.slice Ao71 t528.length co71 : Value).ownBlock) (.slice Ao21 t520.length co21) t520):=⟨by refine zV0 ?_;exact Kd.R_mono (Kd.R_far (p:=⟨gb532,0,none⟩) (Kd.R_types HO_525000.out BK532.out (by decide)) (fun _ hk => hk.2) (.slice Ao71 t528.length co71)) (fun _ hk => ⟨hk.1.2.1,⟨hk.1.2.2.1,⟨hk.1.2.2.2,hk.1.1⟩⟩⟩)⟩
            have n5_ : Aside0 (Kd.R k45 45 (w70.setCell ⟨gb532,0,none⟩ (.slice Ao71 t528.length co71)) w.heap.size (fun k_ => some k_ ≠ (.slice Ao15 t515.length co15 : Value).ownBlock ∧ some k_ ≠ (.slice Ao21 t520.length co21 : Value).ownBlock ∧ some k_ ≠ (.slice Ao71 t528.length co71 : Value).ownBlock) (.slice Ao66 x527000_2.length co66) x527000_2):=⟨by refine zV0 ?_;exact Kd.R_mono (Kd.R_far (p:=⟨gb532,0,none⟩) (Kd.R_types HO_527000.out BK532.out (by decide)) (fun _ hk => hk.2) (.slice Ao71 t528.length co71)) (fun _ hk => ⟨hk.1.2.1,⟨hk.1.2.2,hk.1.1⟩⟩)⟩
            have n6_ : Aside0 (Kd.R k45 45 (w70.setCell ⟨gb532,0,none⟩ (.slice Ao71 t528.length co71)) w.heap.size (fun k_ => some k_ ≠ (.slice Ao10 t504.length co10 : Value).ownBlock ∧ some k_ ≠ (.slice Ao15 t515.length co15 : Value).ownBlock ∧ some k_ ≠ (.slice Ao21 t520.length co21 : Value).ownBlock ∧ some k_ ≠ (.slice Ao66 x527000_2.length co66 : Value).ownBlock) (.slice Ao71 t528.length co71) t528):=⟨by refine zV0 ?_;exact Kd.R_mono (Kd.R_far (p:=⟨gb532,0,none⟩) (Kd.R_types HO530.out BK532.out (by decide)) (fun _ hk => hk.2) (.slice Ao71 t528.length co71)) (fun _ hk => ⟨hk.1.1,⟨hk.1.2.1,⟨hk.1.2.2.1,hk.1.2.2.2⟩⟩⟩)⟩
            have n7_ : Aside0 ((w70.setCell ⟨gb532,0,none⟩ (.slice Ao71 t528.length co71)).heap[gb514]? = some (.cells #[.slice Ao10 t504.length co10] 30 (0,0))):=⟨zK0 BK514.out⟩
            have n8_ : Aside0 ((w70.setCell ⟨gb532,0,none⟩ (.slice Ao71 t528.length co71)).heap[gb519]? = some (.cells #[.slice Ao15 t515.length co15] 30 (0,0))):=⟨zK0 BK519.out⟩
            have n9_ : Aside0 ((w70.setCell ⟨gb532,0,none⟩ (.slice Ao71 t528.length co71)).heap[gb524]? = some (.cells #[.slice Ao21 t520.length co21] 30 (0,0))):=⟨zK0 BK524.out⟩
            have n10_ : Aside0 ((w70.setCell ⟨gb532,0,none⟩ (.slice Ao71 t528.length co71)).heap[gb526]? = some (.cells #[.slice Ao66 x527000_2.length co66] 30 (0,0))):=⟨zK0 BK526.out⟩
            have n11_ : Aside0 ((w70.setCell ⟨gb532,0,none⟩ (.slice Ao71 t528.length co71)).heap[gb532]? = some (.cells #[.slice Ao71 t528.length co71] 30 (0,0))):=⟨by refine zT0 ?_;refine blk_put (cs:=#[.slice none 0 0]) ?_ 0 _ rfl;exact zK0 BK532.out⟩
            have n12_ : Aside0 (Below w.heap.size w (w70.setCell ⟨gb532,0,none⟩ (.slice Ao71 t528.length co71))):=⟨zY0 HB.out⟩
            (try clear HO_4)
            (try clear HO_6)
            (try clear HO_515000)
            (try clear HO_520000)
            (try clear HO_525000)
            (try clear HO_527000)
            (try clear HO530)
            (try clear BK514)
            (try clear BK519)
            (try clear BK524)
            (try clear BK526)
            (try clear BK532)
            (try clear HB)
            generalize (w70.setCell ⟨gb532,0,none⟩ (.slice Ao71 t528.length co71)) = w73 at n0_ n1_ n2_ n3_ n4_ n5_ n6_ n7_ n8_ n9_ n10_ n11_ n12_ ⊢
            have HO_4:=n0_
            have HO_6:=n1_
            have HO_515000:=n2_
            have HO_520000:=n3_
            have HO_525000:=n4_
            have HO_527000:=n5_
            have HO530:=n6_
            have BK514:=n7_
            have BK519:=n8_
            have BK524:=n9_
            have BK526:=n10_
            have BK532:=n11_
            have HB:=n12_
            clear n0_ n1_ n2_ n3_ n4_ n5_ n6_ n7_ n8_ n9_ n10_ n11_ n12_
            replace HO_4:=Aside0.mk (Kd.R_drew HO_4.out)
            replace HO_6:=Aside0.mk (Kd.R_drew HO_6.out)
            replace HO_515000:=Aside0.mk (Kd.R_drew HO_515000.out)
            replace HO_520000:=Aside0.mk (Kd.R_drew HO_520000.out)
            replace HO_525000:=Aside0.mk (Kd.R_drew HO_525000.out)
            replace HO_527000:=Aside0.mk (Kd.R_drew HO_527000.out)
            replace HO530:=Aside0.mk (Kd.R_drew HO530.out)
            replace BK514:=Aside0.mk (blk_drew BK514.out)
            replace BK519:=Aside0.mk (blk_drew BK519.out)
            replace BK524:=Aside0.mk (blk_drew BK524.out)
            replace BK526:=Aside0.mk (blk_drew BK526.out)
            replace BK532:=Aside0.mk (blk_drew BK532.out)
            replace HB:=Aside0.mk (below_drew1 HB.out)
            have p533 : 0 ≤ (x12_2 : Int):=zD0
            have q533 : x12_2 < (t507.length : Int):=zD0
            obtain ⟨ad533,e533,hx533_0,hx533_1,hx533_2,hx533_3⟩:=at_T55 (Kd.R_reads' HO_4.out).2.2 x12_2 p533 q533
            obtain rfl : ad527 = ad533:=(by injection e533)
            replace p533:=eq_true p533
            replace q533:=eq_true q533
            refine start_ (n:=12) (S:=fun w' => w'.cell? ⟨gb526,0,none⟩ = some (.slice Ao66 x527000_2.length co66) ∧ w'.cell? (ad527.add ((x12_2).toNat * 4)) = some (.int .i64 ((rd_T55 t507 x12_2).f0)) ∧ w'.cell? ⟨(ad527.add ((x12_2).toNat * 4)).block,(ad527.add ((x12_2).toNat * 4)).off + 1,none⟩ = some (.string ((rd_T55 t507 x12_2).f1)) ∧ w'.cell? ⟨(ad527.add ((x12_2).toNat * 4)).block,(ad527.add ((x12_2).toNat * 4)).off + 2,none⟩ = some (.string ((rd_T55 t507 x12_2).f2)) ∧ w'.cell? ⟨(ad527.add ((x12_2).toNat * 4)).block,(ad527.add ((x12_2).toNat * 4)).off + 3,none⟩ = some (.string ((rd_T55 t507 x12_2).f3))) (ds:=[]) (zF0 12 0) (by kernel_rfl) rfl rfl ⟨zc00 BK526,hx533_0,hx533_1,hx533_2,hx533_3⟩ (fun hHeld => ?_);refine with_tabW laws_FnActs.tab15 laws_FnActs.bits15 (fun HT_ HW_ => ?_)
            generalize w73.drew = w74 at HO_4 HO_6 HO_515000 HO_520000 HO_525000 HO_527000 HO530 BK514 BK519 BK524 BK526 BK532 HB hx533_0 hx533_1 hx533_2 hx533_3 hHeld ⊢
            refine zp0 1 72 12 2 HT_ ?_
            refine zp0 2 73 12 6 HT_ ?_
            refine zp0 3 74 12 14 HT_ ?_
            refine zp0 4 75 12 30 HT_ ?_
            refine zt0 0 71 12 31 HT_ HW_ hHeld ?_
            refine zt0 5 76 12 63 HT_ HW_ hHeld ?_
            refine one_ (i:=6) (N:=some 77) (zF0 12 127) rfl rfl (one_of HT_.out (by kernel_rfl)) (by decide) (fun K hK => ?_)
            refine goes_ Try.func17 (by kernel_rfl) rfl #[.agg #[.slice Ao66 x527000_2.length co66],.string ((rd_T55 t507 x12_2).f1)] (by rfl) rfl rfl zM0 ?_
            with_reducible refine (impl_FileAt.calls _ _ x527000_2 ((rd_T55 t507 x12_2).f1) t534 t535 _ ?side1 ?side2 A47.out).mono ?_
            (case side1 => exact zA0 ((Kd.R_reads' HO_527000.out).2.2))
            (case side2 => exact (Kd.R_reads' HO_527000.out).2.1)
            rintro e w75 ⟨rfl,hb⟩
            have HS1_:=(hb.cell (World.block_lt_of_cell? _ _ (hHeld.2.1))).trans (hHeld.2.1)
            have HS2_:=(hb.cell (World.block_lt_of_cell? _ _ (hHeld.2.2.1))).trans (hHeld.2.2.1)
            have HS3_:=(hb.cell (World.block_lt_of_cell? _ _ (hHeld.2.2.2.1))).trans (hHeld.2.2.2.1)
            have HS4_:=(hb.cell (World.block_lt_of_cell? _ _ (hHeld.2.2.2.2))).trans (hHeld.2.2.2.2)
            refine ⟨_,rfl,?_⟩
            replace HO_4:=Aside0.mk (Kd.R_below (zR0 HO_4.out) hb)
            replace HO_6:=Aside0.mk (Kd.R_below (zR0 HO_6.out) hb)
            replace HO_515000:=Aside0.mk (Kd.R_below (zR0 HO_515000.out) hb)
            replace HO_520000:=Aside0.mk (Kd.R_below (zR0 HO_520000.out) hb)
            replace HO_525000:=Aside0.mk (Kd.R_below (zR0 HO_525000.out) hb)
            replace HO_527000:=Aside0.mk (Kd.R_below (zR0 HO_527000.out) hb)
            replace HO530:=Aside0.mk (Kd.R_below (zR0 HO530.out) hb)
            replace BK514:=zb0 BK514 hb
            replace BK519:=zb0 BK519 hb
            replace BK524:=zb0 BK524 hb
            replace BK526:=zb0 BK526 hb
            replace BK532:=zb0 BK532 hb
            replace HB:=zs0 HB hb
            (try clear hb)
            (try clear hb2)
            (try clear hk)
            (try clear hi)
            refine hK.out _ _ ⟨zc00 BK526,HS1_,HS2_,HS3_,HS4_⟩ (fun hHeld => ?_)
            clear hK K
            refine norm_ (a':=?_) ?_ ?_;rotate_left
            ·show Act.put _ (some 77) _ = _;simp only [Act.put,qA0,qB0,qC0,i64_w,i32_w];rfl
            refine zp0 7 70 12 255 HT_ ?_
            refine zp0 8 78 12 511 HT_ ?_
            refine zp0 9 79 12 1023 HT_ ?_
            refine zp0 10 15 12 2047 HT_ ?_
            refine zp0 11 16 12 4095 HT_ ?_
            refine done_ (done_of HT_.out (by kernel_rfl)) ?_
            try go_wp2
            replace HO_4:=Aside0.mk (Kd.R_drew HO_4.out)
            replace HO_6:=Aside0.mk (Kd.R_drew HO_6.out)
            replace HO_515000:=Aside0.mk (Kd.R_drew HO_515000.out)
            replace HO_520000:=Aside0.mk (Kd.R_drew HO_520000.out)
            replace HO_525000:=Aside0.mk (Kd.R_drew HO_525000.out)
            replace HO_527000:=Aside0.mk (Kd.R_drew HO_527000.out)
            replace HO530:=Aside0.mk (Kd.R_drew HO530.out)
            replace BK514:=Aside0.mk (blk_drew BK514.out)
            replace BK519:=Aside0.mk (blk_drew BK519.out)
            replace BK524:=Aside0.mk (blk_drew BK524.out)
            replace BK526:=Aside0.mk (blk_drew BK526.out)
            replace BK532:=Aside0.mk (blk_drew BK532.out)
            replace HB:=Aside0.mk (below_drew1 HB.out)
            have p536 : 0 ≤ (x12_2 : Int):=zD0
            have q536 : x12_2 < (t507.length : Int):=zD0
            obtain ⟨ad536,e536,hx536_0,hx536_1,hx536_2,hx536_3⟩:=at_T55 (Kd.R_reads' HO_4.out).2.2 x12_2 p536 q536
            obtain rfl : ad527 = ad536:=(by injection e536)
            replace p536:=eq_true p536
            replace q536:=eq_true q536
            refine start_ (n:=12) (S:=fun w' => w'.cell? ⟨gb532,0,none⟩ = some (.slice Ao71 t528.length co71) ∧ w'.cell? (ad527.add ((x12_2).toNat * 4)) = some (.int .i64 ((rd_T55 t507 x12_2).f0)) ∧ w'.cell? ⟨(ad527.add ((x12_2).toNat * 4)).block,(ad527.add ((x12_2).toNat * 4)).off + 1,none⟩ = some (.string ((rd_T55 t507 x12_2).f1)) ∧ w'.cell? ⟨(ad527.add ((x12_2).toNat * 4)).block,(ad527.add ((x12_2).toNat * 4)).off + 2,none⟩ = some (.string ((rd_T55 t507 x12_2).f2)) ∧ w'.cell? ⟨(ad527.add ((x12_2).toNat * 4)).block,(ad527.add ((x12_2).toNat * 4)).off + 3,none⟩ = some (.string ((rd_T55 t507 x12_2).f3))) (ds:=[]) (zF0 12 0) (by kernel_rfl) rfl rfl ⟨zc00 BK532,hx536_0,hx536_1,hx536_2,hx536_3⟩ (fun hHeld => ?_);refine with_tabW laws_FnActs.tab16 laws_FnActs.bits16 (fun HT_ HW_ => ?_)
            generalize w75.drew = w76 at HO_4 HO_6 HO_515000 HO_520000 HO_525000 HO_527000 HO530 BK514 BK519 BK524 BK526 BK532 HB hx536_0 hx536_1 hx536_2 hx536_3 hHeld ⊢
            refine zp0 1 82 12 2 HT_ ?_
            refine zp0 2 83 12 6 HT_ ?_
            refine zp0 3 84 12 14 HT_ ?_
            refine zp0 4 85 12 30 HT_ ?_
            refine zt0 0 81 12 31 HT_ HW_ hHeld ?_
            refine zt0 5 86 12 63 HT_ HW_ hHeld ?_
            refine one_ (i:=6) (N:=some 87) (zF0 12 127) rfl rfl (one_of HT_.out (by kernel_rfl)) (by decide) (fun K hK => ?_)
            refine goes_ Try.func17 (by kernel_rfl) rfl #[.agg #[.slice Ao71 t528.length co71],.string ((rd_T55 t507 x12_2).f1)] (by rfl) rfl rfl zM0 ?_
            with_reducible refine (impl_FileAt.calls _ _ t528 ((rd_T55 t507 x12_2).f1) t537 _ _ ?side1 ?side2 A48.out).mono ?_
            (case side1 => exact zA0 ((Kd.R_reads' HO530.out).2.2))
            (case side2 => exact (Kd.R_reads' HO530.out).2.1)
            rintro e w77 ⟨rfl,hb⟩
            have HS1_:=(hb.cell (World.block_lt_of_cell? _ _ (hHeld.2.1))).trans (hHeld.2.1)
            have HS2_:=(hb.cell (World.block_lt_of_cell? _ _ (hHeld.2.2.1))).trans (hHeld.2.2.1)
            have HS3_:=(hb.cell (World.block_lt_of_cell? _ _ (hHeld.2.2.2.1))).trans (hHeld.2.2.2.1)
            have HS4_:=(hb.cell (World.block_lt_of_cell? _ _ (hHeld.2.2.2.2))).trans (hHeld.2.2.2.2)
            refine ⟨_,rfl,?_⟩
            replace HO_4:=Aside0.mk (Kd.R_below (zR0 HO_4.out) hb)
            replace HO_6:=Aside0.mk (Kd.R_below (zR0 HO_6.out) hb)
            replace HO_515000:=Aside0.mk (Kd.R_below (zR0 HO_515000.out) hb)
            replace HO_520000:=Aside0.mk (Kd.R_below (zR0 HO_520000.out) hb)
            replace HO_525000:=Aside0.mk (Kd.R_below (zR0 HO_525000.out) hb)
            replace HO_527000:=Aside0.mk (Kd.R_below (zR0 HO_527000.out) hb)
            replace HO530:=Aside0.mk (Kd.R_below (zR0 HO530.out) hb)
            replace BK514:=zb0 BK514 hb
            replace BK519:=zb0 BK519 hb
            replace BK524:=zb0 BK524 hb
            replace BK526:=zb0 BK526 hb
            replace BK532:=zb0 BK532 hb
            replace HB:=zs0 HB hb
            (try clear hb)
            (try clear hb2)
            (try clear hk)
            (try clear hi)
            refine hK.out _ _ ⟨zc00 BK532,HS1_,HS2_,HS3_,HS4_⟩ (fun hHeld => ?_)
            clear hK K
            refine norm_ (a':=?_) ?_ ?_;rotate_left
            ·show Act.put _ (some 87) _ = _;simp only [Act.put,qA0,qB0,qC0,i64_w,i32_w];rfl
            refine zp0 7 80 12 255 HT_ ?_
            refine zp0 8 88 12 511 HT_ ?_
            refine zp0 9 89 12 1023 HT_ ?_
            refine zp0 10 17 12 2047 HT_ ?_
            refine zp0 11 18 12 4095 HT_ ?_
            refine done_ (done_of HT_.out (by kernel_rfl)) ?_
            have p539 : 0 ≤ (x12_2 : Int):=zD0
            have q539 : x12_2 < (t507.length : Int):=zD0
            obtain ⟨ad539,e539,hx539_0,hx539_1,hx539_2,hx539_3⟩:=at_T55 (Kd.R_reads' HO_4.out).2.2 x12_2 p539 q539
            obtain rfl : ad527 = ad539:=(by injection e539)
            replace p539:=eq_true p539
            replace q539:=eq_true q539
            have p540 : 0 ≤ (x12_2 : Int):=zD0
            have q540 : x12_2 < (t507.length : Int):=zD0
            obtain ⟨ad540,e540,hx540_0,hx540_1,hx540_2,hx540_3⟩:=at_T55 (Kd.R_reads' HO_4.out).2.2 x12_2 p540 q540
            obtain rfl : ad527 = ad540:=(by injection e540)
            replace p540:=eq_true p540
            replace q540:=eq_true q540
            have p541 : 0 ≤ (x12_2 : Int):=zD0
            have q541 : x12_2 < (t507.length : Int):=zD0
            obtain ⟨ad541,e541,hx541_0,hx541_1,hx541_2,hx541_3⟩:=at_T55 (Kd.R_reads' HO_4.out).2.2 x12_2 p541 q541
            obtain rfl : ad527 = ad541:=(by injection e541)
            replace p541:=eq_true p541
            replace q541:=eq_true q541
            obtain ⟨_,_⟩:=zn0 NB532_514
            obtain ⟨_,_⟩:=zn0 NB532_519
            obtain ⟨_,_⟩:=zn0 NB532_524
            obtain ⟨_,_⟩:=zn0 NB532_526
            obtain ⟨_,_⟩:=zd01 BK532
            obtain ⟨_,_⟩:=zn0 NB526_514
            obtain ⟨_,_⟩:=zn0 NB526_519
            obtain ⟨_,_⟩:=zn0 NB526_524
            obtain ⟨_,_⟩:=zd01 BK526
            try go_wp2
            go_roundg k2
            case measure => have:=HJ6.out;have:=HK2.out;omega
            case rel => exact ⟨(wrap64 (x12_2 + 1)),(t528),(.slice Ao71 t528.length co71),zE0,H',⟨by have:=HJ6.out;have:=HK2.out;omega⟩,⟨by refine zV0 ?_;exact Kd.R_mono (Kd.R_far (p:=⟨gb526,0,none⟩) (Kd.R_types HO_4.out BK526.out (by decide)) (fun _ hk => hk.2) (.slice Ao71 t528.length co71)) (fun _ hk => trivial)⟩,⟨by refine zV0 ?_;exact Kd.R_mono (Kd.R_far (p:=⟨gb526,0,none⟩) (Kd.R_types HO_6.out BK526.out (by decide)) (fun _ hk => hk.2) (.slice Ao71 t528.length co71)) (fun _ hk => trivial)⟩,⟨by refine zV0 ?_;exact Kd.R_mono (Kd.R_far (p:=⟨gb526,0,none⟩) (Kd.R_types HO_515000.out BK526.out (by decide)) (fun _ hk => hk.2) (.slice Ao71 t528.length co71)) (fun _ hk => ⟨hk.1.1,hk.1.2.1⟩)⟩,⟨by refine zV0 ?_;exact Kd.R_mono (Kd.R_far (p:=⟨gb526,0,none⟩) (Kd.R_types HO_520000.out BK526.out (by decide)) (fun _ hk => hk.2) (.slice Ao71 t528.length co71)) (fun _ hk => ⟨hk.1.1,⟨hk.1.2.1,hk.1.2.2.2⟩⟩)⟩,⟨by refine zV0 ?_;exact Kd.R_mono (Kd.R_far (p:=⟨gb526,0,none⟩) (Kd.R_types HO_525000.out BK526.out (by decide)) (fun _ hk => hk.2) (.slice Ao71 t528.length co71)) (fun _ hk => ⟨hk.1.1,⟨hk.1.2.1,hk.1.2.2.2⟩⟩)⟩,⟨by refine zV0 ?_;exact Kd.R_mono (Kd.R_far (p:=⟨gb526,0,none⟩) (Kd.R_types HO530.out BK526.out (by decide)) (fun _ hk => hk.2) (.slice Ao71 t528.length co71)) (fun _ hk => ⟨hk.1.2.1,hk.1.2.2.1⟩)⟩,⟨zK0 BK514.out⟩,⟨zK0 BK519.out⟩,⟨zK0 BK524.out⟩,⟨by refine zT0 ?_;refine blk_put (cs:=#[.slice Ao66 x527000_2.length co66]) ?_ 0 _ rfl;exact zK0 BK526.out⟩,⟨zY0 HB.out⟩⟩
          ·replace c46:=Bool.eq_false_iff.mpr c46
           subst c46
           have H1 : (some false) = some r:=by rw [if_neg (show ¬ (false = true) by decide)] at H;exact H
           exact absurd (H1.trans (congrArg some hrt)) (by first | simp | (cases kj6 <;> simp [laws_FnActs.j0]) | (cases k2 <;> simp [laws_FnActs.j0]) | (cases k <;> simp [laws_FnActs.j0]))
         ·rw [if_neg c44] at H
          exact absurd H (by simp)
        ·rw [if_neg c43] at H
         exact absurd H (by simp)
       ·rw [if_neg c42] at H
        have c42b0 : decide (x12_2 < t518) = false:=decide_eq_false c42
        clear c42
        obtain ⟨⟨t543,t546⟩,A174,H⟩:=bX0 H
        dsimp only at H
        obtain ⟨⟨t548,t551⟩,A175,H⟩:=bX0 H
        dsimp only at H
        by_cases c176 : (t546 == t551) = true
        ·rw [if_pos c176] at H
         have c176b0 : (t546 == t551) = true:=c176
         (try (have c176b1 : decide (t546 = t551) = true:=by simpa using c176))
         (try (have c176b2 : (t546 == t551) = true:=by simpa using c176))
         clear c176
         obtain ⟨t553,A177,H⟩:=bX0 H
         by_cases c178 : t553 = true
         ·subst c178
          rw [if_pos rfl] at H
          by_cases c179 : t518 = 0
          ·rw [if_pos c179] at H
           have c179b0 : (t518 == 0) = true:=beq_iff_eq.mpr c179
           have c179b1 : (t518 != 0) = false:=bne_eq_false_iff_eq.mpr c179
           clear c179
           obtain rfl:=Option.some.inj H
           obtain ⟨_,_⟩:=zn0 NB514_519
           obtain ⟨_,_⟩:=zn0 NB514_524
           obtain ⟨_,_⟩:=zn0 NB514_526
           have hcz183_0 : wr.cell? ⟨gb514,0,none⟩ = some (.slice Ao10 t504.length co10):=zc00 BK514
           have hfz183_0:=blk_frozen BK514.out 0
           obtain ⟨Ao184,co184,eo184⟩:=Kd.R_slice HO_6.out
           subst eo184
           go_wp2_with (first | ((with_reducible refine gate_callee (f:=46) rfl ?_);refine goesL_ (some 128) rfl rfl Try.func46 (by kernel_rfl) rfl #[.agg #[.slice Ao10 t504.length co10],.slice Ao12 t507.length co12,.int .i64 t510,.slice Ao184 t511.length co184] rfl zM0 ?_;(with_reducible refine (impl_CutActs.calls k2 _ _ t504 _ _ t507 t510 _ _ t511 t543 t546 _ ?side1 ?side2 ?side3 ?side4 ?side5 ?side6 A174.out).mono ?_);(case side1 => exact zA0 ((Kd.R_reads' HO_515000.out).2.2));(case side2 => exact (Kd.R_reads' HO_515000.out).2.1);(case side3 => exact zA0 ((Kd.R_reads' HO_4.out).2.2));(case side4 => exact (Kd.R_reads' HO_4.out).2.1);(case side5 => exact zA0 ((Kd.R_reads' HO_6.out).2.2));(case side6 => exact (Kd.R_reads' HO_6.out).2.1);rintro e w185 ⟨v544,rfl,ho0,hb⟩;refine ⟨_,rfl,?_⟩;replace HO_4:=Aside0.mk (Kd.R_below (zR0 HO_4.out) hb);replace HO_6:=Aside0.mk (Kd.R_below (zR0 HO_6.out) hb);have HO545:=Aside0.mk (Kd.R_lower (Kd.R_new' (Kd.R_new' (Kd.R_new' (Kd.R_new' ho0 (Kd.R_lt (zR0 HO_515000.out))) (Kd.R_lt (zR0 HO_520000.out))) (Kd.R_lt (zR0 HO_525000.out))) (Kd.R_lt (zR0 HO_527000.out))) (zZ0 HB.out));replace HO_515000:=Aside0.mk (Kd.R_elder' (zR0 HO_515000.out) (Kd.R_base ho0) hb);replace HO_520000:=Aside0.mk (Kd.R_elder' (zR0 HO_520000.out) (Kd.R_base ho0) hb);replace HO_525000:=Aside0.mk (Kd.R_elder' (zR0 HO_525000.out) (Kd.R_base ho0) hb);replace HO_527000:=Aside0.mk (Kd.R_elder' (zR0 HO_527000.out) (Kd.R_base ho0) hb);replace BK514:=zb0 BK514 hb;replace BK519:=zb0 BK519 hb;replace BK524:=zb0 BK524 hb;replace BK526:=zb0 BK526 hb;replace HB:=zs0 HB hb;(try clear hb);(try clear ho0)) | ((with_reducible refine gate_dst (N:=19) rfl ?_);refine zy0 (cs:=#[.slice none 0 0]) (t:=30) ?_;intro gb547 hg w186 hbox hb;replace HO_4:=Aside0.mk (Kd.R_below (zR0 HO_4.out) hb);replace HO_6:=Aside0.mk (Kd.R_below (zR0 HO_6.out) hb);replace HO_515000:=Aside0.mk (Kd.R_below (zR0 HO_515000.out) hb);replace HO_520000:=Aside0.mk (Kd.R_below (zR0 HO_520000.out) hb);replace HO_525000:=Aside0.mk (Kd.R_below (zR0 HO_525000.out) hb);replace HO_527000:=Aside0.mk (Kd.R_below (zR0 HO_527000.out) hb);replace HO545:=Aside0.mk (Kd.R_below (zR0 HO545.out) hb);have BK547:=Aside0.mk hbox;have GW547:=zz0 hg HB;have GE547:=zz0 hg HB;replace HB:=zs0 HB hb;have NB514_547:=zl0 hg BK514;have NB547_514:=zg0 hg BK514;replace BK514:=zb0 BK514 hb;have NB519_547:=zl0 hg BK519;have NB547_519:=zg0 hg BK519;replace BK519:=zb0 BK519 hb;have NB524_547:=zl0 hg BK524;have NB547_524:=zg0 hg BK524;replace BK524:=zb0 BK524 hb;have NB526_547:=zl0 hg BK526;have NB547_526:=zg0 hg BK526;replace BK526:=zb0 BK526 hb;clear hb hbox hg;obtain ⟨Ao187,co187,eo187⟩:=Kd.R_slice HO545.out;subst eo187;obtain ⟨_,_⟩:=zn0 NB547_514;obtain ⟨_,_⟩:=zn0 NB547_519;obtain ⟨_,_⟩:=zn0 NB547_524;obtain ⟨_,_⟩:=zn0 NB547_526;obtain ⟨_,_⟩:=zd01 BK547;obtain ⟨_,_⟩:=zd01 BK514) | ((with_reducible refine gate_callee (f:=47) rfl ?_);refine goesL_ (some 136) rfl rfl Try.func47 (by kernel_rfl) rfl #[.agg #[.slice Ao10 t504.length co10],.slice Ao12 t507.length co12,.int .i64 t510,.slice Ao184 t511.length co184] rfl zM0 ?_;(with_reducible refine (spec_CutActs.calls k2 _ _ t504 _ _ t507 t510 _ _ t511 t548 t551 _ ?side1 ?side2 ?side3 ?side4 ?side5 ?side6 A175.out).mono ?_);(case side1 => refine (Kd.R_reads' (e:=45) (base:=w.heap.size) (ok:=fun k_ => ((some k_ ≠ (.slice Ao15 t515.length co15 : Value).ownBlock ∧ some k_ ≠ (.slice Ao21 t520.length co21 : Value).ownBlock) ∧ some k_ ≠ (.slice Ao187 t543.length co187 : Value).ownBlock)) (n:=t504.length) (c:=co10) ?_).2.2;exact (by refine zV0 ?_;exact (Kd.R_set HO_515000.out BK547.out (by decide) 0 _)));(case side2 => exact (Kd.R_reads' HO_515000.out).2.1);(case side3 => refine (Kd.R_reads' (e:=55) (base:=w.heap.size) (ok:=fun k_ => True) (n:=t507.length) (c:=co12) ?_).2.2;exact (by refine zV0 ?_;exact (Kd.R_set HO_4.out BK547.out (by decide) 0 _)));(case side4 => exact (Kd.R_reads' HO_4.out).2.1);(case side5 => refine (Kd.R_reads' (e:=3) (base:=w.heap.size) (ok:=fun k_ => True) (n:=t511.length) (c:=co184) ?_).2.2;exact (by refine zV0 ?_;exact (Kd.R_set HO_6.out BK547.out (by decide) 0 _)));(case side6 => exact (Kd.R_reads' HO_6.out).2.1);rintro e w194 ⟨v549,rfl,ho0,hb⟩;refine ⟨_,rfl,?_⟩;replace HO_4:=Aside0.mk (Kd.R_below (by refine zV0 ?_;exact (Kd.R_set HO_4.out BK547.out (by decide) 0 _)) hb);replace HO_6:=Aside0.mk (Kd.R_below (by refine zV0 ?_;exact (Kd.R_set HO_6.out BK547.out (by decide) 0 _)) hb);have HO550:=Aside0.mk (Kd.R_lower (Kd.R_new' (Kd.R_new' (Kd.R_new' (Kd.R_new' (Kd.R_new' ho0 (Kd.R_lt (by refine zV0 ?_;exact (Kd.R_set HO_515000.out BK547.out (by decide) 0 _)))) (Kd.R_lt (by refine zV0 ?_;exact (Kd.R_set HO_520000.out BK547.out (by decide) 0 _)))) (Kd.R_lt (by refine zV0 ?_;exact (Kd.R_set HO_525000.out BK547.out (by decide) 0 _)))) (Kd.R_lt (by refine zV0 ?_;exact (Kd.R_set HO_527000.out BK547.out (by decide) 0 _)))) (Kd.R_lt (by refine zV0 ?_;exact (Kd.R_set HO545.out BK547.out (by decide) 0 _)))) (zZ0 HB.out));replace HO_515000:=Aside0.mk (Kd.R_elder' (by refine zV0 ?_;exact (Kd.R_set HO_515000.out BK547.out (by decide) 0 _)) (Kd.R_base ho0) hb);replace HO_520000:=Aside0.mk (Kd.R_elder' (by refine zV0 ?_;exact (Kd.R_set HO_520000.out BK547.out (by decide) 0 _)) (Kd.R_base ho0) hb);replace HO_525000:=Aside0.mk (Kd.R_elder' (by refine zV0 ?_;exact (Kd.R_set HO_525000.out BK547.out (by decide) 0 _)) (Kd.R_base ho0) hb);replace HO_527000:=Aside0.mk (Kd.R_elder' (by refine zV0 ?_;exact (Kd.R_set HO_527000.out BK547.out (by decide) 0 _)) (Kd.R_base ho0) hb);replace HO545:=Aside0.mk (Kd.R_elder' (by refine zV0 ?_;exact (Kd.R_set HO545.out BK547.out (by decide) 0 _)) (Kd.R_base ho0) hb);replace BK514:=zb0 BK514 hb;replace BK519:=zb0 BK519 hb;replace BK524:=zb0 BK524 hb;replace BK526:=zb0 BK526 hb;replace BK547:=Aside0.mk (blk_below (g:=gb547) (o:=.cells #[.slice Ao187 t543.length co187] 30 (0,0)) (by refine zT0 ?_;refine blk_put (cs:=#[.slice none 0 0]) ?_ 0 _ rfl;exact zK0 BK547.out) hb);replace HB:=zs0 HB hb;(try clear hb);(try clear hk);(try clear ho0)) | ((with_reducible refine gate_dst (N:=21) rfl ?_);refine zy0 (cs:=#[.slice none 0 0]) (t:=30) ?_;intro gb552 hg w195 hbox hb;replace HO_4:=Aside0.mk (Kd.R_below (zR0 HO_4.out) hb);replace HO_6:=Aside0.mk (Kd.R_below (zR0 HO_6.out) hb);replace HO_515000:=Aside0.mk (Kd.R_below (zR0 HO_515000.out) hb);replace HO_520000:=Aside0.mk (Kd.R_below (zR0 HO_520000.out) hb);replace HO_525000:=Aside0.mk (Kd.R_below (zR0 HO_525000.out) hb);replace HO_527000:=Aside0.mk (Kd.R_below (zR0 HO_527000.out) hb);replace HO545:=Aside0.mk (Kd.R_below (zR0 HO545.out) hb);replace HO550:=Aside0.mk (Kd.R_below (zR0 HO550.out) hb);have BK552:=Aside0.mk hbox;have GW552:=zz0 hg HB;have GE552:=zz0 hg HB;replace HB:=zs0 HB hb;have NB514_552:=zl0 hg BK514;have NB552_514:=zg0 hg BK514;replace BK514:=zb0 BK514 hb;have NB519_552:=zl0 hg BK519;have NB552_519:=zg0 hg BK519;replace BK519:=zb0 BK519 hb;have NB524_552:=zl0 hg BK524;have NB552_524:=zg0 hg BK524;replace BK524:=zb0 BK524 hb;have NB526_552:=zl0 hg BK526;have NB552_526:=zg0 hg BK526;replace BK526:=zb0 BK526 hb;have NB547_552:=zl0 hg BK547;have NB552_547:=zg0 hg BK547;replace BK547:=zb0 BK547 hb;clear hb hbox hg;obtain ⟨Ao196,co196,eo196⟩:=Kd.R_slice HO550.out;subst eo196;obtain ⟨_,_⟩:=zn0 NB552_514;obtain ⟨_,_⟩:=zn0 NB552_519;obtain ⟨_,_⟩:=zn0 NB552_524;obtain ⟨_,_⟩:=zn0 NB552_526;obtain ⟨_,_⟩:=zn0 NB552_547;obtain ⟨_,_⟩:=zd01 BK552;obtain ⟨_,_⟩:=zd01 BK547) | (go_at_call 26;(with_reducible refine (laws_sameDisk.calls k2 _ _ t543 _ _ t548 true _ ?side1 ?side2 ?side3 ?side4 A177.out).mono ?_);(case side1 => refine (Kd.R_reads' (e:=45) (base:=w.heap.size) (ok:=fun k_ => (((((True ∧ some k_ ≠ (.slice Ao10 t504.length co10 : Value).ownBlock) ∧ some k_ ≠ (.slice Ao15 t515.length co15 : Value).ownBlock) ∧ some k_ ≠ (.slice Ao21 t520.length co21 : Value).ownBlock) ∧ some k_ ≠ (u527000 : Value).ownBlock) ∧ some k_ ≠ (.slice Ao196 t548.length co196 : Value).ownBlock)) (n:=t543.length) (c:=co187) ?_).2.2;exact (by refine zV0 ?_;exact (Kd.R_set HO545.out BK552.out (by decide) 0 _)));(case side2 => exact (Kd.R_reads' HO545.out).2.1);(case side3 => refine (Kd.R_reads' (e:=45) (base:=w.heap.size) (ok:=fun k_ => (((((True ∧ some k_ ≠ (.slice Ao10 t504.length co10 : Value).ownBlock) ∧ some k_ ≠ (.slice Ao15 t515.length co15 : Value).ownBlock) ∧ some k_ ≠ (.slice Ao21 t520.length co21 : Value).ownBlock) ∧ some k_ ≠ (u527000 : Value).ownBlock) ∧ some k_ ≠ (.slice Ao187 t543.length co187 : Value).ownBlock)) (n:=t548.length) (c:=co196) ?_).2.2;exact (by refine zV0 ?_;exact (Kd.R_set HO550.out BK552.out (by decide) 0 _)));(case side4 => exact (Kd.R_reads' HO550.out).2.1);rintro e w204 ⟨rfl,hb⟩;replace HO_4:=Aside0.mk (Kd.R_below (by refine zV0 ?_;exact (Kd.R_set HO_4.out BK552.out (by decide) 0 _)) hb);replace HO_6:=Aside0.mk (Kd.R_below (by refine zV0 ?_;exact (Kd.R_set HO_6.out BK552.out (by decide) 0 _)) hb);replace HO_515000:=Aside0.mk (Kd.R_below (by refine zV0 ?_;exact (Kd.R_set HO_515000.out BK552.out (by decide) 0 _)) hb);replace HO_520000:=Aside0.mk (Kd.R_below (by refine zV0 ?_;exact (Kd.R_set HO_520000.out BK552.out (by decide) 0 _)) hb);replace HO_525000:=Aside0.mk (Kd.R_below (by refine zV0 ?_;exact (Kd.R_set HO_525000.out BK552.out (by decide) 0 _)) hb);replace HO_527000:=Aside0.mk (Kd.R_below (by refine zV0 ?_;exact (Kd.R_set HO_527000.out BK552.out (by decide) 0 _)) hb);replace HO545:=Aside0.mk (Kd.R_below (by refine zV0 ?_;exact (Kd.R_set HO545.out BK552.out (by decide) 0 _)) hb);replace HO550:=Aside0.mk (Kd.R_below (by refine zV0 ?_;exact (Kd.R_set HO550.out BK552.out (by decide) 0 _)) hb);replace BK514:=zb0 BK514 hb;replace BK519:=zb0 BK519 hb;replace BK524:=zb0 BK524 hb;replace BK526:=zb0 BK526 hb;replace BK547:=zb0 BK547 hb;replace BK552:=Aside0.mk (blk_below (g:=gb552) (o:=.cells #[.slice Ao196 t548.length co196] 30 (0,0)) (by refine zT0 ?_;refine blk_put (cs:=#[.slice none 0 0]) ?_ 0 _ rfl;exact zK0 BK552.out) hb);replace HB:=zs0 HB hb;(try clear hb);(try clear hk)))
           go_ret
           exact ⟨zW0,(zY0 HB.out)⟩
          ·rw [if_neg c179] at H
           have c179b0 : (t518 == 0) = false:=beq_eq_false_iff_ne.mpr c179
           have c179b1 : (t518 != 0) = true:=bne_iff_ne.mpr c179
           obtain ⟨t554,A205,H⟩:=bX0 H
           obtain rfl:=Option.some.inj H
           obtain ⟨_,_⟩:=zn0 NB514_519
           obtain ⟨_,_⟩:=zn0 NB514_524
           obtain ⟨_,_⟩:=zn0 NB514_526
           have hcz209_0 : wr.cell? ⟨gb514,0,none⟩ = some (.slice Ao10 t504.length co10):=zc00 BK514
           have hfz209_0:=blk_frozen BK514.out 0
           obtain ⟨Ao210,co210,eo210⟩:=Kd.R_slice HO_6.out
           subst eo210
           go_wp2_with (first | ((with_reducible refine gate_callee (f:=46) rfl ?_);refine goesL_ (some 128) rfl rfl Try.func46 (by kernel_rfl) rfl #[.agg #[.slice Ao10 t504.length co10],.slice Ao12 t507.length co12,.int .i64 t510,.slice Ao210 t511.length co210] rfl zM0 ?_;(with_reducible refine (impl_CutActs.calls k2 _ _ t504 _ _ t507 t510 _ _ t511 t543 t546 _ ?side1 ?side2 ?side3 ?side4 ?side5 ?side6 A174.out).mono ?_);(case side1 => exact zA0 ((Kd.R_reads' HO_515000.out).2.2));(case side2 => exact (Kd.R_reads' HO_515000.out).2.1);(case side3 => exact zA0 ((Kd.R_reads' HO_4.out).2.2));(case side4 => exact (Kd.R_reads' HO_4.out).2.1);(case side5 => exact zA0 ((Kd.R_reads' HO_6.out).2.2));(case side6 => exact (Kd.R_reads' HO_6.out).2.1);rintro e w211 ⟨v544,rfl,ho0,hb⟩;refine ⟨_,rfl,?_⟩;replace HO_4:=Aside0.mk (Kd.R_below (zR0 HO_4.out) hb);replace HO_6:=Aside0.mk (Kd.R_below (zR0 HO_6.out) hb);have HO545:=Aside0.mk (Kd.R_lower (Kd.R_new' (Kd.R_new' (Kd.R_new' (Kd.R_new' ho0 (Kd.R_lt (zR0 HO_515000.out))) (Kd.R_lt (zR0 HO_520000.out))) (Kd.R_lt (zR0 HO_525000.out))) (Kd.R_lt (zR0 HO_527000.out))) (zZ0 HB.out));replace HO_515000:=Aside0.mk (Kd.R_elder' (zR0 HO_515000.out) (Kd.R_base ho0) hb);replace HO_520000:=Aside0.mk (Kd.R_elder' (zR0 HO_520000.out) (Kd.R_base ho0) hb);replace HO_525000:=Aside0.mk (Kd.R_elder' (zR0 HO_525000.out) (Kd.R_base ho0) hb);replace HO_527000:=Aside0.mk (Kd.R_elder' (zR0 HO_527000.out) (Kd.R_base ho0) hb);replace BK514:=zb0 BK514 hb;replace BK519:=zb0 BK519 hb;replace BK524:=zb0 BK524 hb;replace BK526:=zb0 BK526 hb;replace HB:=zs0 HB hb;(try clear hb);(try clear ho0)) | ((with_reducible refine gate_dst (N:=19) rfl ?_);refine zy0 (cs:=#[.slice none 0 0]) (t:=30) ?_;intro gb547 hg w212 hbox hb;replace HO_4:=Aside0.mk (Kd.R_below (zR0 HO_4.out) hb);replace HO_6:=Aside0.mk (Kd.R_below (zR0 HO_6.out) hb);replace HO_515000:=Aside0.mk (Kd.R_below (zR0 HO_515000.out) hb);replace HO_520000:=Aside0.mk (Kd.R_below (zR0 HO_520000.out) hb);replace HO_525000:=Aside0.mk (Kd.R_below (zR0 HO_525000.out) hb);replace HO_527000:=Aside0.mk (Kd.R_below (zR0 HO_527000.out) hb);replace HO545:=Aside0.mk (Kd.R_below (zR0 HO545.out) hb);have BK547:=Aside0.mk hbox;have GW547:=zz0 hg HB;have GE547:=zz0 hg HB;replace HB:=zs0 HB hb;have NB514_547:=zl0 hg BK514;have NB547_514:=zg0 hg BK514;replace BK514:=zb0 BK514 hb;have NB519_547:=zl0 hg BK519;have NB547_519:=zg0 hg BK519;replace BK519:=zb0 BK519 hb;have NB524_547:=zl0 hg BK524;have NB547_524:=zg0 hg BK524;replace BK524:=zb0 BK524 hb;have NB526_547:=zl0 hg BK526;have NB547_526:=zg0 hg BK526;replace BK526:=zb0 BK526 hb;clear hb hbox hg;obtain ⟨Ao213,co213,eo213⟩:=Kd.R_slice HO545.out;subst eo213;obtain ⟨_,_⟩:=zn0 NB547_514;obtain ⟨_,_⟩:=zn0 NB547_519;obtain ⟨_,_⟩:=zn0 NB547_524;obtain ⟨_,_⟩:=zn0 NB547_526;obtain ⟨_,_⟩:=zd01 BK547;obtain ⟨_,_⟩:=zd01 BK514) | ((with_reducible refine gate_callee (f:=47) rfl ?_);refine goesL_ (some 136) rfl rfl Try.func47 (by kernel_rfl) rfl #[.agg #[.slice Ao10 t504.length co10],.slice Ao12 t507.length co12,.int .i64 t510,.slice Ao210 t511.length co210] rfl zM0 ?_;(with_reducible refine (spec_CutActs.calls k2 _ _ t504 _ _ t507 t510 _ _ t511 t548 t551 _ ?side1 ?side2 ?side3 ?side4 ?side5 ?side6 A175.out).mono ?_);(case side1 => refine (Kd.R_reads' (e:=45) (base:=w.heap.size) (ok:=fun k_ => ((some k_ ≠ (.slice Ao15 t515.length co15 : Value).ownBlock ∧ some k_ ≠ (.slice Ao21 t520.length co21 : Value).ownBlock) ∧ some k_ ≠ (.slice Ao213 t543.length co213 : Value).ownBlock)) (n:=t504.length) (c:=co10) ?_).2.2;exact (by refine zV0 ?_;exact (Kd.R_set HO_515000.out BK547.out (by decide) 0 _)));(case side2 => exact (Kd.R_reads' HO_515000.out).2.1);(case side3 => refine (Kd.R_reads' (e:=55) (base:=w.heap.size) (ok:=fun k_ => True) (n:=t507.length) (c:=co12) ?_).2.2;exact (by refine zV0 ?_;exact (Kd.R_set HO_4.out BK547.out (by decide) 0 _)));(case side4 => exact (Kd.R_reads' HO_4.out).2.1);(case side5 => refine (Kd.R_reads' (e:=3) (base:=w.heap.size) (ok:=fun k_ => True) (n:=t511.length) (c:=co210) ?_).2.2;exact (by refine zV0 ?_;exact (Kd.R_set HO_6.out BK547.out (by decide) 0 _)));(case side6 => exact (Kd.R_reads' HO_6.out).2.1);rintro e w220 ⟨v549,rfl,ho0,hb⟩;refine ⟨_,rfl,?_⟩;replace HO_4:=Aside0.mk (Kd.R_below (by refine zV0 ?_;exact (Kd.R_set HO_4.out BK547.out (by decide) 0 _)) hb);replace HO_6:=Aside0.mk (Kd.R_below (by refine zV0 ?_;exact (Kd.R_set HO_6.out BK547.out (by decide) 0 _)) hb);have HO550:=Aside0.mk (Kd.R_lower (Kd.R_new' (Kd.R_new' (Kd.R_new' (Kd.R_new' (Kd.R_new' ho0 (Kd.R_lt (by refine zV0 ?_;exact (Kd.R_set HO_515000.out BK547.out (by decide) 0 _)))) (Kd.R_lt (by refine zV0 ?_;exact (Kd.R_set HO_520000.out BK547.out (by decide) 0 _)))) (Kd.R_lt (by refine zV0 ?_;exact (Kd.R_set HO_525000.out BK547.out (by decide) 0 _)))) (Kd.R_lt (by refine zV0 ?_;exact (Kd.R_set HO_527000.out BK547.out (by decide) 0 _)))) (Kd.R_lt (by refine zV0 ?_;exact (Kd.R_set HO545.out BK547.out (by decide) 0 _)))) (zZ0 HB.out));replace HO_515000:=Aside0.mk (Kd.R_elder' (by refine zV0 ?_;exact (Kd.R_set HO_515000.out BK547.out (by decide) 0 _)) (Kd.R_base ho0) hb);replace HO_520000:=Aside0.mk (Kd.R_elder' (by refine zV0 ?_;exact (Kd.R_set HO_520000.out BK547.out (by decide) 0 _)) (Kd.R_base ho0) hb);replace HO_525000:=Aside0.mk (Kd.R_elder' (by refine zV0 ?_;exact (Kd.R_set HO_525000.out BK547.out (by decide) 0 _)) (Kd.R_base ho0) hb);replace HO_527000:=Aside0.mk (Kd.R_elder' (by refine zV0 ?_;exact (Kd.R_set HO_527000.out BK547.out (by decide) 0 _)) (Kd.R_base ho0) hb);replace HO545:=Aside0.mk (Kd.R_elder' (by refine zV0 ?_;exact (Kd.R_set HO545.out BK547.out (by decide) 0 _)) (Kd.R_base ho0) hb);replace BK514:=zb0 BK514 hb;replace BK519:=zb0 BK519 hb;replace BK524:=zb0 BK524 hb;replace BK526:=zb0 BK526 hb;replace BK547:=Aside0.mk (blk_below (g:=gb547) (o:=.cells #[.slice Ao213 t543.length co213] 30 (0,0)) (by refine zT0 ?_;refine blk_put (cs:=#[.slice none 0 0]) ?_ 0 _ rfl;exact zK0 BK547.out) hb);replace HB:=zs0 HB hb;(try clear hb);(try clear hk);(try clear ho0)) | ((with_reducible refine gate_dst (N:=21) rfl ?_);refine zy0 (cs:=#[.slice none 0 0]) (t:=30) ?_;intro gb552 hg w221 hbox hb;replace HO_4:=Aside0.mk (Kd.R_below (zR0 HO_4.out) hb);replace HO_6:=Aside0.mk (Kd.R_below (zR0 HO_6.out) hb);replace HO_515000:=Aside0.mk (Kd.R_below (zR0 HO_515000.out) hb);replace HO_520000:=Aside0.mk (Kd.R_below (zR0 HO_520000.out) hb);replace HO_525000:=Aside0.mk (Kd.R_below (zR0 HO_525000.out) hb);replace HO_527000:=Aside0.mk (Kd.R_below (zR0 HO_527000.out) hb);replace HO545:=Aside0.mk (Kd.R_below (zR0 HO545.out) hb);replace HO550:=Aside0.mk (Kd.R_below (zR0 HO550.out) hb);have BK552:=Aside0.mk hbox;have GW552:=zz0 hg HB;have GE552:=zz0 hg HB;replace HB:=zs0 HB hb;have NB514_552:=zl0 hg BK514;have NB552_514:=zg0 hg BK514;replace BK514:=zb0 BK514 hb;have NB519_552:=zl0 hg BK519;have NB552_519:=zg0 hg BK519;replace BK519:=zb0 BK519 hb;have NB524_552:=zl0 hg BK524;have NB552_524:=zg0 hg BK524;replace BK524:=zb0 BK524 hb;have NB526_552:=zl0 hg BK526;have NB552_526:=zg0 hg BK526;replace BK526:=zb0 BK526 hb;have NB547_552:=zl0 hg BK547;have NB552_547:=zg0 hg BK547;replace BK547:=zb0 BK547 hb;clear hb hbox hg;obtain ⟨Ao222,co222,eo222⟩:=Kd.R_slice HO550.out;subst eo222;obtain ⟨_,_⟩:=zn0 NB552_514;obtain ⟨_,_⟩:=zn0 NB552_519;obtain ⟨_,_⟩:=zn0 NB552_524;obtain ⟨_,_⟩:=zn0 NB552_526;obtain ⟨_,_⟩:=zn0 NB552_547;obtain ⟨_,_⟩:=zd01 BK552;obtain ⟨_,_⟩:=zd01 BK547) | (go_at_call 26;(with_reducible refine (laws_sameDisk.calls k2 _ _ t543 _ _ t548 true _ ?side1 ?side2 ?side3 ?side4 A177.out).mono ?_);(case side1 => refine (Kd.R_reads' (e:=45) (base:=w.heap.size) (ok:=fun k_ => (((((True ∧ some k_ ≠ (.slice Ao10 t504.length co10 : Value).ownBlock) ∧ some k_ ≠ (.slice Ao15 t515.length co15 : Value).ownBlock) ∧ some k_ ≠ (.slice Ao21 t520.length co21 : Value).ownBlock) ∧ some k_ ≠ (u527000 : Value).ownBlock) ∧ some k_ ≠ (.slice Ao222 t548.length co222 : Value).ownBlock)) (n:=t543.length) (c:=co213) ?_).2.2;exact (by refine zV0 ?_;exact (Kd.R_set HO545.out BK552.out (by decide) 0 _)));(case side2 => exact (Kd.R_reads' HO545.out).2.1);(case side3 => refine (Kd.R_reads' (e:=45) (base:=w.heap.size) (ok:=fun k_ => (((((True ∧ some k_ ≠ (.slice Ao10 t504.length co10 : Value).ownBlock) ∧ some k_ ≠ (.slice Ao15 t515.length co15 : Value).ownBlock) ∧ some k_ ≠ (.slice Ao21 t520.length co21 : Value).ownBlock) ∧ some k_ ≠ (u527000 : Value).ownBlock) ∧ some k_ ≠ (.slice Ao213 t543.length co213 : Value).ownBlock)) (n:=t548.length) (c:=co222) ?_).2.2;exact (by refine zV0 ?_;exact (Kd.R_set HO550.out BK552.out (by decide) 0 _)));(case side4 => exact (Kd.R_reads' HO550.out).2.1);rintro e w230 ⟨rfl,hb⟩;replace HO_4:=Aside0.mk (Kd.R_below (by refine zV0 ?_;exact (Kd.R_set HO_4.out BK552.out (by decide) 0 _)) hb);replace HO_6:=Aside0.mk (Kd.R_below (by refine zV0 ?_;exact (Kd.R_set HO_6.out BK552.out (by decide) 0 _)) hb);replace HO_515000:=Aside0.mk (Kd.R_below (by refine zV0 ?_;exact (Kd.R_set HO_515000.out BK552.out (by decide) 0 _)) hb);replace HO_520000:=Aside0.mk (Kd.R_below (by refine zV0 ?_;exact (Kd.R_set HO_520000.out BK552.out (by decide) 0 _)) hb);replace HO_525000:=Aside0.mk (Kd.R_below (by refine zV0 ?_;exact (Kd.R_set HO_525000.out BK552.out (by decide) 0 _)) hb);replace HO_527000:=Aside0.mk (Kd.R_below (by refine zV0 ?_;exact (Kd.R_set HO_527000.out BK552.out (by decide) 0 _)) hb);replace HO545:=Aside0.mk (Kd.R_below (by refine zV0 ?_;exact (Kd.R_set HO545.out BK552.out (by decide) 0 _)) hb);replace HO550:=Aside0.mk (Kd.R_below (by refine zV0 ?_;exact (Kd.R_set HO550.out BK552.out (by decide) 0 _)) hb);replace BK514:=zb0 BK514 hb;replace BK519:=zb0 BK519 hb;replace BK524:=zb0 BK524 hb;replace BK526:=zb0 BK526 hb;replace BK547:=zb0 BK547 hb;replace BK552:=Aside0.mk (blk_below (g:=gb552) (o:=.cells #[.slice Ao222 t548.length co222] 30 (0,0)) (by refine zT0 ?_;refine blk_put (cs:=#[.slice none 0 0]) ?_ 0 _ rfl;exact zK0 BK552.out) hb);replace HB:=zs0 HB hb;(try clear hb);(try clear hk);obtain ⟨_,_⟩:=zn0 NB526_519;obtain ⟨_,_⟩:=zn0 NB526_524;obtain ⟨_,_⟩:=zd01 BK526;obtain ⟨_,_⟩:=zn0 NB519_524;obtain ⟨_,_⟩:=zd01 BK519;obtain ⟨Ao236,co236,eo236⟩:=Kd.R_slice HO_527000.out;subst eo236) | (go_at_call 26;(with_reducible refine (laws_sameDisk.calls k2 _ _ x527000_2 _ _ t515 t554 _ ?side1 ?side2 ?side3 ?side4 A205.out).mono ?_);(case side1 => exact zA0 ((Kd.R_reads' HO_527000.out).2.2));(case side2 => exact (Kd.R_reads' HO_527000.out).2.1);(case side3 => exact zA0 ((Kd.R_reads' HO_520000.out).2.2));(case side4 => exact (Kd.R_reads' HO_520000.out).2.1);rintro e w237 ⟨rfl,hb⟩;replace HO_4:=Aside0.mk (Kd.R_below (zR0 HO_4.out) hb);replace HO_6:=Aside0.mk (Kd.R_below (zR0 HO_6.out) hb);replace HO_515000:=Aside0.mk (Kd.R_below (zR0 HO_515000.out) hb);replace HO_520000:=Aside0.mk (Kd.R_below (zR0 HO_520000.out) hb);replace HO_525000:=Aside0.mk (Kd.R_below (zR0 HO_525000.out) hb);replace HO_527000:=Aside0.mk (Kd.R_below (zR0 HO_527000.out) hb);replace HO545:=Aside0.mk (Kd.R_below (zR0 HO545.out) hb);replace HO550:=Aside0.mk (Kd.R_below (zR0 HO550.out) hb);replace BK514:=zb0 BK514 hb;replace BK519:=zb0 BK519 hb;replace BK524:=zb0 BK524 hb;replace BK526:=zb0 BK526 hb;replace BK547:=zb0 BK547 hb;replace BK552:=zb0 BK552 hb;replace HB:=zs0 HB hb;(try clear hb);(try clear hk)))
           go_ret
           exact ⟨zW0,(zY0 HB.out)⟩
         ·replace c178:=Bool.eq_false_iff.mpr c178
          subst c178
          have H1 : (some false) = some r:=by rw [if_neg (show ¬ (false = true) by decide)] at H;exact H
          exact absurd (H1.trans (congrArg some hrt)) (by first | simp | (cases kj6 <;> simp [laws_FnActs.j0]) | (cases k2 <;> simp [laws_FnActs.j0]) | (cases k <;> simp [laws_FnActs.j0]))
        ·rw [if_neg c176] at H
         exact absurd (H.trans (congrArg some hrt)) (by first | simp | (cases kj6 <;> simp [laws_FnActs.j0]) | (cases k2 <;> simp [laws_FnActs.j0]) | (cases k <;> simp [laws_FnActs.j0]))
/-- THE ONE PURE STATEMENT of laws_FnActs: yours. -/
def laws_FnActs.Pure : Prop:=∀ (l0 : List Int),l0.length ≤ maxLen → l0.length * 1 ≤ 140737488351232 → (∀ x ∈ l0,(Lit.int .u8 x).wf = true) → ∃ k,laws_FnActs.f k l0 = some true
theorem laws_FnActs.walk (P : laws_FnActs.Pure) (a0 : Option Addr) (len0 cap0 : Nat) (z0 : List Int) (w : World) (w0 : (a0 = none ∧ len0 = 0 ∧ cap0 = 0 ∧ z0 = []) ∨ ∃ x,a0 = some x ∧ len0 ≤ cap0 ∧ cap0 ≤ maxLen ∧ z0.length = cap0 ∧ (∀ i,i < z0.length → w.cell? (x.add i) = some (.int .u8 (z0.getD i 0))) ∧ ∀ n ∈ z0,(Lit.int .u8 n).wf = true) (y0 : len0 * 1 ≤ 140737488351232) :
  Calls Try.prog 9 #[.slice a0 len0 cap0] w fun e w' => e = .returned (.bool true) ∧ Below w.heap.size w w':=by
 obtain ⟨l0,rfl,hr0,hm0,hw0,hc0⟩:=ReadsInt.ofRowC w0
 obtain ⟨k,h⟩:=P l0 hm0 y0 hw0
 refine (laws_FnActs.calls k _ _ l0 true w (Kd.C_of_reads (d:=(0 : Int)) (h1:=fun _ => rfl) hr0) hc0 h rfl).mono ?_
 rintro e w' ⟨rfl,hd⟩
 exact ⟨rfl,hd⟩

end Go.Proofs.Ytgfacdhkamphiaa.PFnActs
