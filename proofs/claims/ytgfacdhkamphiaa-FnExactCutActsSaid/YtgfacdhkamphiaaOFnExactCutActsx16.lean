/- Walks of functions that the law FnExactCutActs reaches, turned by this session from a print of which a part did not build; what was changed is listed in wip/patches of the proofs' repo. -/
import Derived.Test.YtgfacdhkamphiaaOFnExactCutActsx0
import Derived.Test.YtgfacdhkamphiaaOFnExactCutActsx10
import Derived.Test.YtgfacdhkamphiaaOFnExactCutActsx11
import Derived.Test.YtgfacdhkamphiaaOFnExactCutActsx13
import Derived.Test.YtgfacdhkamphiaaOFnExactCutActsx14
import Derived.Test.YtgfacdhkamphiaaOFnExactCutActsx15
namespace Go.Proofs.Ytgfacdhkamphiaa.PFnExactCutActs
open Go.RowKit Go.Proofs.YtgfacdhkamphiaaW.PrintWords Go.Proofs.YtgfacdhkamphiaaW.PrintLast Go.Proofs.YtgfacdhkamphiaaW.PrintMore
attribute [local go_sem] max2_int min2_int max_two min_two max_three min_three max_four min_four   -- for this text's walks alone
set_option linter.unusedVariables false
set_option linter.unusedSimpArgs false

/-! ### spec_DoAct: function 36 -/
mutual
def spec_DoAct.j0 : Nat → Bool → List (S45) → Int → ByteArray → ByteArray → ByteArray → Option ((List (S45)) × Bool)
 | 0,_,_,_,_,_,_ => none
 | k + 1,x37,x292000,x293000,x293001,x293002,x293003 => if x37 = true then (some (([] : List (S45)),false)) else ((spec_l03At.f k x292000 x293001).bind fun t296 => (if t296 ≥ 0 then (if 0 ≤ t296 then (if t296 < (x292000.length : Int) then (spec_DoAct.j1 k t296 x292000 x293000 x293001 x293002 x293003 ((rd_T45 x292000 t296).f0) ((rd_T45 x292000 t296).f1) ((rd_T45 x292000 t296).f2)) else (none)) else (none)) else (spec_DoAct.j1 k t296 x292000 x293000 x293001 x293002 x293003 x293001 (⟨#[]⟩ : ByteArray) 0)))
def spec_DoAct.j1 : Nat → Int → List (S45) → Int → ByteArray → ByteArray → ByteArray → ByteArray → ByteArray → Int → Option ((List (S45)) × Bool)
 | 0,_,_,_,_,_,_,_,_,_ => none
 | k + 1,x6,x292000,x293000,x293001,x293002,x293003,x298000,x298001,x298002 => if x293000 = 1 then (if x298001.size + x293002.size ≤ 9223372036854775807 then ((spec_l03Put.f k x292000 x298000 (x298001 ++ x293002) x298002).bind fun t300 => ((spec_DiskOk.f k t300).bind fun t303 => (if t303 = true then (some (t300,true)) else (some (([] : List (S45)),false))))) else (none)) else (if x6 < 0 then (some (([] : List (S45)),false)) else (if x293000 = 2 then ((spec_l03Put.f k x292000 x298000 x298001 (x298001.size : Int)).bind fun t304 => ((spec_DiskOk.f k t304).bind fun t307 => (if t307 = true then (some (t304,true)) else (some (([] : List (S45)),false))))) else (if x293000 = 3 then (if x298002 < (x298001.size : Int) then (spec_DoAct.j2 k true x292000 x293000 x293001 x293002 x293003 x298000 x298001 x298002) else (if x293003.toList = x293001.toList then (spec_DoAct.j2 k true x292000 x293000 x293001 x293002 x293003 x298000 x298001 x298002) else ((spec_l03Name.f x293003).bind fun t308 => (spec_DoAct.j2 k (!t308) x292000 x293000 x293001 x293002 x293003 x298000 x298001 x298002)))) else (if x293000 = 4 then ((spec_l03Without.f k x292000 x293001).bind fun t316 => ((spec_DiskOk.f k t316).bind fun t319 => (if t319 = true then (some (t316,true)) else (some (([] : List (S45)),false))))) else (some (([] : List (S45)),false))))))
def spec_DoAct.j2 : Nat → Bool → List (S45) → Int → ByteArray → ByteArray → ByteArray → ByteArray → ByteArray → Int → Option ((List (S45)) × Bool)
 | 0,_,_,_,_,_,_,_,_,_ => none
 | k + 1,x105,x292000,x293000,x293001,x293002,x293003,x298000,x298001,x298002 => if x105 = true then (some (([] : List (S45)),false)) else ((spec_l03Without.f k x292000 x293001).bind fun t309 => ((spec_l03Put.f k t309 x293003 x298001 x298002).bind fun t312 => ((spec_DiskOk.f k t312).bind fun t315 => (if t315 = true then (some (t312,true)) else (some (([] : List (S45)),false))))))
end
def spec_DoAct.f (k : Nat) (l0_0 : List (S45)) (a1_0 : Int) (a1_1 : ByteArray) (a1_2 : ByteArray) (a1_3 : ByteArray) : Option ((List (S45)) × Bool):=(spec_DiskOk.f k l0_0).bind fun t294 => (if t294 = true then ((spec_l03Name.f a1_1).bind fun t295 => (if t295 = true then (if a1_0 = 3 then (if a1_0 = 1 then (spec_DoAct.j0 k false l0_0 a1_0 a1_1 a1_2 a1_3) else (spec_DoAct.j0 k (a1_2.toList != ([] : List UInt8)) l0_0 a1_0 a1_1 a1_2 a1_3)) else (if a1_3.toList = ([] : List UInt8) then (if a1_0 = 1 then (spec_DoAct.j0 k false l0_0 a1_0 a1_1 a1_2 a1_3) else (spec_DoAct.j0 k (a1_2.toList != ([] : List UInt8)) l0_0 a1_0 a1_1 a1_2 a1_3)) else (spec_DoAct.j0 k true l0_0 a1_0 a1_1 a1_2 a1_3))) else (spec_DoAct.j0 k true l0_0 a1_0 a1_1 a1_2 a1_3))) else (spec_DoAct.j0 k true l0_0 a1_0 a1_1 a1_2 a1_3))
theorem spec_DoAct.mono_l : ∀ k,(∀ y0 y1 y2 y3 y4 y5,LeO (spec_DoAct.j0 k y0 y1 y2 y3 y4 y5) (spec_DoAct.j0 (k + 1) y0 y1 y2 y3 y4 y5)) ∧ (∀ y0 y1 y2 y3 y4 y5 y6 y7 y8,LeO (spec_DoAct.j1 k y0 y1 y2 y3 y4 y5 y6 y7 y8) (spec_DoAct.j1 (k + 1) y0 y1 y2 y3 y4 y5 y6 y7 y8)) ∧ (∀ y0 y1 y2 y3 y4 y5 y6 y7 y8,LeO (spec_DoAct.j2 k y0 y1 y2 y3 y4 y5 y6 y7 y8) (spec_DoAct.j2 (k + 1) y0 y1 y2 y3 y4 y5 y6 y7 y8))
 | 0 => ⟨fun _ _ _ _ _ _ r h => by simp [spec_DoAct.j0] at h,fun _ _ _ _ _ _ _ _ _ r h => by simp [spec_DoAct.j1] at h,fun _ _ _ _ _ _ _ _ _ r h => by simp [spec_DoAct.j2] at h⟩
 | k + 1 => by
  obtain ⟨ih0,ih1,ih2⟩:=spec_DoAct.mono_l k
  refine ⟨?_,?_,?_⟩
  ·intro y0 y1 y2 y3 y4 y5
   unfold spec_DoAct.j0
   repeat' first
   | (with_reducible exact ih0 _ _ _ _ _ _)
   | (with_reducible exact ih1 _ _ _ _ _ _ _ _ _)
   | (with_reducible exact ih2 _ _ _ _ _ _ _ _ _)
   | (with_reducible exact spec_DiskOk.mono _ _)
   | (with_reducible exact spec_l03At.mono _ _ _)
   | (with_reducible exact spec_l03Put.mono _ _ _ _ _)
   | (with_reducible exact spec_l03Without.mono _ _ _)
   | (with_reducible exact LeO.refl _)
   | (with_reducible exact LeO.none _)
   | (with_reducible refine LeO.ite ?_ ?_)
   | (with_reducible refine LeO.bind ?_ (fun _ => ?_))
   | exact ih0 _ _ _ _ _ _
   | exact ih1 _ _ _ _ _ _ _ _ _
   | exact ih2 _ _ _ _ _ _ _ _ _
   | exact spec_DiskOk.mono _ _
   | exact spec_l03At.mono _ _ _
   | exact spec_l03Put.mono _ _ _ _ _
   | exact spec_l03Without.mono _ _ _
   | exact LeO.none _
   | refine LeO.ite ?_ ?_
   | refine LeO.bind ?_ (fun _ => ?_)
  ·intro y0 y1 y2 y3 y4 y5 y6 y7 y8
   unfold spec_DoAct.j1
   repeat' first
   | (with_reducible exact ih0 _ _ _ _ _ _)
   | (with_reducible exact ih1 _ _ _ _ _ _ _ _ _)
   | (with_reducible exact ih2 _ _ _ _ _ _ _ _ _)
   | (with_reducible exact spec_DiskOk.mono _ _)
   | (with_reducible exact spec_l03At.mono _ _ _)
   | (with_reducible exact spec_l03Put.mono _ _ _ _ _)
   | (with_reducible exact spec_l03Without.mono _ _ _)
   | (with_reducible exact LeO.refl _)
   | (with_reducible exact LeO.none _)
   | (with_reducible refine LeO.ite ?_ ?_)
   | (with_reducible refine LeO.bind ?_ (fun _ => ?_))
   | exact ih0 _ _ _ _ _ _
   | exact ih1 _ _ _ _ _ _ _ _ _
   | exact ih2 _ _ _ _ _ _ _ _ _
   | exact spec_DiskOk.mono _ _
   | exact spec_l03At.mono _ _ _
   | exact spec_l03Put.mono _ _ _ _ _
   | exact spec_l03Without.mono _ _ _
   | exact LeO.none _
   | refine LeO.ite ?_ ?_
   | refine LeO.bind ?_ (fun _ => ?_)
  ·intro y0 y1 y2 y3 y4 y5 y6 y7 y8
   unfold spec_DoAct.j2
   repeat' first
   | (with_reducible exact ih0 _ _ _ _ _ _)
   | (with_reducible exact ih1 _ _ _ _ _ _ _ _ _)
   | (with_reducible exact ih2 _ _ _ _ _ _ _ _ _)
   | (with_reducible exact spec_DiskOk.mono _ _)
   | (with_reducible exact spec_l03At.mono _ _ _)
   | (with_reducible exact spec_l03Put.mono _ _ _ _ _)
   | (with_reducible exact spec_l03Without.mono _ _ _)
   | (with_reducible exact LeO.refl _)
   | (with_reducible exact LeO.none _)
   | (with_reducible refine LeO.ite ?_ ?_)
   | (with_reducible refine LeO.bind ?_ (fun _ => ?_))
   | exact ih0 _ _ _ _ _ _
   | exact ih1 _ _ _ _ _ _ _ _ _
   | exact ih2 _ _ _ _ _ _ _ _ _
   | exact spec_DiskOk.mono _ _
   | exact spec_l03At.mono _ _ _
   | exact spec_l03Put.mono _ _ _ _ _
   | exact spec_l03Without.mono _ _ _
   | exact LeO.none _
   | refine LeO.ite ?_ ?_
   | refine LeO.bind ?_ (fun _ => ?_)
theorem spec_DoAct.mono : ∀ a0 a1 a2 a3 a4 k,LeO (spec_DoAct.f k a0 a1 a2 a3 a4) (spec_DoAct.f (k + 1) a0 a1 a2 a3 a4):=by
 intro a0 a1 a2 a3 a4 k
 obtain ⟨ih0,ih1,ih2⟩:=spec_DoAct.mono_l k
 unfold spec_DoAct.f
 repeat' first
   | (with_reducible exact ih0 _ _ _ _ _ _)
   | (with_reducible exact ih1 _ _ _ _ _ _ _ _ _)
   | (with_reducible exact ih2 _ _ _ _ _ _ _ _ _)
   | (with_reducible exact spec_DiskOk.mono _ _)
   | (with_reducible exact spec_l03At.mono _ _ _)
   | (with_reducible exact spec_l03Put.mono _ _ _ _ _)
   | (with_reducible exact spec_l03Without.mono _ _ _)
   | (with_reducible exact LeO.refl _)
   | (with_reducible exact LeO.none _)
   | (with_reducible refine LeO.ite ?_ ?_)
   | (with_reducible refine LeO.bind ?_ (fun _ => ?_))
   | exact ih0 _ _ _ _ _ _
   | exact ih1 _ _ _ _ _ _ _ _ _
   | exact ih2 _ _ _ _ _ _ _ _ _
   | exact spec_DiskOk.mono _ _
   | exact spec_l03At.mono _ _ _
   | exact spec_l03Put.mono _ _ _ _ _
   | exact spec_l03Without.mono _ _ _
   | exact LeO.none _
   | refine LeO.ite ?_ ?_
   | refine LeO.bind ?_ (fun _ => ?_)
set_option maxHeartbeats 8000000 in
set_option maxRecDepth 100000 in
theorem spec_DoAct.calls (k : Nat) (A0_0 : Option Addr) (c0_0 : Nat) (l0_0 : List (S45)) (a1_0 : Int) (a1_1 : ByteArray) (a1_2 : ByteArray) (a1_3 : ByteArray) (r1 : List (S45)) (r2 : Bool) (w : World) (hr0_0 : Kd.C k45 w A0_0 l0_0.length l0_0) (hc0_0 : l0_0.length ≤ c0_0) (h : spec_DoAct.f k l0_0 a1_0 a1_1 a1_2 a1_3 = some (r1,r2)) :
  Calls Try.prog 36 #[.agg #[.slice A0_0 l0_0.length c0_0],.agg #[.int .i64 a1_0,.string a1_1,.string a1_2,.string a1_3]] w fun e w' => ∃ v0_ : Value,e = .returned (.tuple #[.agg #[v0_],.bool r2]) ∧ Kd.R k45 45 w' w.heap.size (fun _ => True) v0_ r1 ∧ Below w.heap.size w w':=by
 have hu30:=Try.underlying30
 have hu55:=Try.underlying55
 have hu45:=Try.underlying45
 have HR0_0:=Aside0.mk hr0_0
 have HC0_0:=Aside0.mk hc0_0
 clear hr0_0 hc0_0
 have HB:=Aside0.mk (Below.refl w.heap.size w)
 have H : ((spec_DiskOk.f k l0_0).bind fun t294 => (if t294 = true then ((spec_l03Name.f a1_1).bind fun t295 => (if t295 = true then (if a1_0 = 3 then (if a1_0 = 1 then (spec_DoAct.j0 k false l0_0 a1_0 a1_1 a1_2 a1_3) else (spec_DoAct.j0 k (a1_2.toList != ([] : List UInt8)) l0_0 a1_0 a1_1 a1_2 a1_3)) else (if a1_3.toList = ([] : List UInt8) then (if a1_0 = 1 then (spec_DoAct.j0 k false l0_0 a1_0 a1_1 a1_2 a1_3) else (spec_DoAct.j0 k (a1_2.toList != ([] : List UInt8)) l0_0 a1_0 a1_1 a1_2 a1_3)) else (spec_DoAct.j0 k true l0_0 a1_0 a1_1 a1_2 a1_3))) else (spec_DoAct.j0 k true l0_0 a1_0 a1_1 a1_2 a1_3))) else (spec_DoAct.j0 k true l0_0 a1_0 a1_1 a1_2 a1_3))) = some (r1,r2):=h
 clear h
 have HC3:=Aside0.mk H
 clear H
 go_enter Try.func36,Try.ntmps36
 go_upto_region 1 with (first | ((with_reducible refine gate_dst (N:=2) rfl ?_);refine box_event ?hg (N:=2) ?hd (cs:=#[.slice A0_0 l0_0.length c0_0]) (t:=30) ?hr ?_;(case hd => rfl);(case hg => rfl);(case hr => first | (go_simp;done) | (go_simp;rfl));intro gb291 hg w4 hbox hb;have BK291:=Aside0.mk hbox;have GW291:=zz0 hg HB;have GE291:=zz0 hg HB;replace HB:=zs0 HB hb;clear hb hbox hg) | ((with_reducible refine gate_dst (N:=3) rfl ?_);refine box_event ?hg (N:=3) ?hd (cs:=#[.int .i64 a1_0,.string a1_1,.string a1_2,.string a1_3]) (t:=55) ?hr ?_;(case hd => rfl);(case hg => rfl);(case hr => first | (go_simp;done) | (go_simp;rfl));intro gb292 hg w5 hbox hb;have BK292:=Aside0.mk hbox;have GW292:=zz0 hg HB;have GE292:=zz0 hg HB;replace HB:=zs0 HB hb;have NB291_292:=zl0 hg BK291;have NB292_291:=zg0 hg BK291;replace BK291:=zb0 BK291 hb;clear hb hbox hg) | ((with_reducible refine gate_dst (N:=4) rfl ?_);refine box_event ?hg (N:=4) ?hd (cs:=#[.slice none 0 0]) (t:=30) ?hr ?_;(case hd => rfl);(case hg => rfl);(case hr => first | (go_simp;done) | (go_simp;rfl));intro gb293 hg w6 hbox hb;have BK293:=Aside0.mk hbox;have GW293:=zz0 hg HB;have GE293:=zz0 hg HB;replace HB:=zs0 HB hb;have NB291_293:=zl0 hg BK291;have NB293_291:=zg0 hg BK291;replace BK291:=zb0 BK291 hb;have NB292_293:=zl0 hg BK292;have NB293_292:=zg0 hg BK292;replace BK292:=zb0 BK292 hb;clear hb hbox hg))
 (try simp only [Act.put,qA0,qB0,qC0])
 go_cut [37] (fun v37 wc => ∃ (kq : Nat) (x37_2 : Bool),v37 = .bool x37_2 ∧ Aside0 (spec_DoAct.j0 kq x37_2 l0_0 a1_0 a1_1 a1_2 a1_3 = some (r1,r2)) ∧ Aside0 (kq ≤ k) ∧ Aside0 (wc.heap[gb291]? = some (.cells #[(.slice A0_0 l0_0.length c0_0)] 30 (0,0))) ∧ Aside0 (wc.heap[gb292]? = some (.cells #[.int .i64 a1_0,.string a1_1,.string a1_2,.string a1_3] 55 (0,0))) ∧ Aside0 (wc.heap[gb293]? = some (.cells #[(.slice none 0 0)] 30 (0,0))) ∧ Aside0 (Below w.heap.size w wc))
 case first =>
  have H:=HC3.out
  clear HC3
  replace H:=Option.bind_eq_some_iff.mp H
  obtain ⟨t294,A70,H⟩:=H
  replace H : (if t294 = true then ((spec_l03Name.f a1_1).bind fun t295 => (if t295 = true then (if a1_0 = 3 then (if a1_0 = 1 then (spec_DoAct.j0 k false l0_0 a1_0 a1_1 a1_2 a1_3) else (spec_DoAct.j0 k (a1_2.toList != ([] : List UInt8)) l0_0 a1_0 a1_1 a1_2 a1_3)) else (if a1_3.toList = ([] : List UInt8) then (if a1_0 = 1 then (spec_DoAct.j0 k false l0_0 a1_0 a1_1 a1_2 a1_3) else (spec_DoAct.j0 k (a1_2.toList != ([] : List UInt8)) l0_0 a1_0 a1_1 a1_2 a1_3)) else (spec_DoAct.j0 k true l0_0 a1_0 a1_1 a1_2 a1_3))) else (spec_DoAct.j0 k true l0_0 a1_0 a1_1 a1_2 a1_3))) else (spec_DoAct.j0 k true l0_0 a1_0 a1_1 a1_2 a1_3)) = some (r1,r2):=H
  have A7:=Aside0.mk A70
  clear A70
  by_cases c8 : t294 = true
  ·subst c8
   have H1 : ((spec_l03Name.f a1_1).bind fun t295 => (if t295 = true then (if a1_0 = 3 then (if a1_0 = 1 then (spec_DoAct.j0 k false l0_0 a1_0 a1_1 a1_2 a1_3) else (spec_DoAct.j0 k (a1_2.toList != ([] : List UInt8)) l0_0 a1_0 a1_1 a1_2 a1_3)) else (if a1_3.toList = ([] : List UInt8) then (if a1_0 = 1 then (spec_DoAct.j0 k false l0_0 a1_0 a1_1 a1_2 a1_3) else (spec_DoAct.j0 k (a1_2.toList != ([] : List UInt8)) l0_0 a1_0 a1_1 a1_2 a1_3)) else (spec_DoAct.j0 k true l0_0 a1_0 a1_1 a1_2 a1_3))) else (spec_DoAct.j0 k true l0_0 a1_0 a1_1 a1_2 a1_3))) = some (r1,r2):=by rw [if_pos rfl] at H;exact H
   clear H
   have H:=H1
   clear H1
   replace H:=Option.bind_eq_some_iff.mp H
   obtain ⟨t295,A90,H⟩:=H
   replace H : (if t295 = true then (if a1_0 = 3 then (if a1_0 = 1 then (spec_DoAct.j0 k false l0_0 a1_0 a1_1 a1_2 a1_3) else (spec_DoAct.j0 k (a1_2.toList != ([] : List UInt8)) l0_0 a1_0 a1_1 a1_2 a1_3)) else (if a1_3.toList = ([] : List UInt8) then (if a1_0 = 1 then (spec_DoAct.j0 k false l0_0 a1_0 a1_1 a1_2 a1_3) else (spec_DoAct.j0 k (a1_2.toList != ([] : List UInt8)) l0_0 a1_0 a1_1 a1_2 a1_3)) else (spec_DoAct.j0 k true l0_0 a1_0 a1_1 a1_2 a1_3))) else (spec_DoAct.j0 k true l0_0 a1_0 a1_1 a1_2 a1_3)) = some (r1,r2):=H
   have A9:=Aside0.mk A90
   clear A90
   by_cases c10 : t295 = true
   ·subst c10
    have H1 : (if a1_0 = 3 then (if a1_0 = 1 then (spec_DoAct.j0 k false l0_0 a1_0 a1_1 a1_2 a1_3) else (spec_DoAct.j0 k (a1_2.toList != ([] : List UInt8)) l0_0 a1_0 a1_1 a1_2 a1_3)) else (if a1_3.toList = ([] : List UInt8) then (if a1_0 = 1 then (spec_DoAct.j0 k false l0_0 a1_0 a1_1 a1_2 a1_3) else (spec_DoAct.j0 k (a1_2.toList != ([] : List UInt8)) l0_0 a1_0 a1_1 a1_2 a1_3)) else (spec_DoAct.j0 k true l0_0 a1_0 a1_1 a1_2 a1_3))) = some (r1,r2):=by rw [if_pos rfl] at H;exact H
    clear H
    have H:=H1
    clear H1
    by_cases c11 : a1_0 = 3
    ·rw [if_pos c11] at H
     have c11b0 : (a1_0 == 3) = true:=beq_iff_eq.mpr c11
     have c11b1 : (a1_0 != 3) = false:=bne_eq_false_iff_eq.mpr c11
     clear c11
     (first | rw [c11b0] | (simp only [i64_w,i32_w];rw [c11b0]) | skip)
     by_cases c12 : a1_0 = 1
     ·rw [if_pos c12] at H
      have c12b0 : (a1_0 == 1) = true:=beq_iff_eq.mpr c12
      have c12b1 : (a1_0 != 1) = false:=bne_eq_false_iff_eq.mpr c12
      clear c12
      have H':=Aside0.mk H
      clear H
      obtain ⟨_,_⟩:=zn0 NB291_292
      obtain ⟨_,_⟩:=zn0 NB291_293
      have hcz15_0:=zc00 BK291
      have hfz15_0:=blk_frozen BK291.out 0
      go_wp2_with (first | ((with_reducible refine gate_callee (f:=68) rfl ?_);refine goesL_ (some 10) rfl rfl Try.func68 (by kernel_rfl) rfl #[.agg #[.slice A0_0 l0_0.length c0_0]] rfl zM0 ?_;(with_reducible refine (spec_DiskOk.calls k _ _ l0_0 true _ ?side1 ?side2 A7.out).mono ?_);(case side1 => exact zA0 (Kd.C_below HR0_0.out HB.out));(case side2 => exact HC0_0.out);rintro e w16 ⟨rfl,hb⟩;refine ⟨_,rfl,?_⟩;replace BK291:=zb0 BK291 hb;replace BK292:=zb0 BK292 hb;replace BK293:=zb0 BK293 hb;replace HB:=zs0 HB hb;(try clear hb);obtain ⟨_,_⟩:=zn0 NB292_293;have hcz18_0:=zc00 BK292;have hcz18_1:=zc01 BK292;have hcz18_2:=zc02 BK292;have hcz18_3:=zc03 BK292;have hfz18_0:=blk_frozen BK292.out 0;have hfz18_1:=blk_frozen BK292.out 1;have hfz18_2:=blk_frozen BK292.out 2;have hfz18_3:=blk_frozen BK292.out 3) | (go_at_call 81;(with_reducible refine (spec_l03Name.calls a1_1 true _ A9.out).mono ?_);rintro e w' ⟨rfl,⟨nd,rfl⟩⟩))
      go_meet
      case rel => exact ⟨_,(false),zE0,H',⟨by first | omega | exact Nat.le_refl _⟩,⟨zK0 BK291.out⟩,⟨zK0 BK292.out⟩,⟨zK0 BK293.out⟩,⟨zY0 HB.out⟩⟩
     ·rw [if_neg c12] at H
      have c12b0 : (a1_0 == 1) = false:=beq_eq_false_iff_ne.mpr c12
      have c12b1 : (a1_0 != 1) = true:=bne_iff_ne.mpr c12
      have H':=Aside0.mk H
      clear H
      obtain ⟨_,_⟩:=zn0 NB291_292
      obtain ⟨_,_⟩:=zn0 NB291_293
      have hcz21_0:=zc00 BK291
      have hfz21_0:=blk_frozen BK291.out 0
      go_wp2_with (first | ((with_reducible refine gate_callee (f:=68) rfl ?_);refine goesL_ (some 10) rfl rfl Try.func68 (by kernel_rfl) rfl #[.agg #[.slice A0_0 l0_0.length c0_0]] rfl zM0 ?_;(with_reducible refine (spec_DiskOk.calls k _ _ l0_0 true _ ?side1 ?side2 A7.out).mono ?_);(case side1 => exact zA0 (Kd.C_below HR0_0.out HB.out));(case side2 => exact HC0_0.out);rintro e w22 ⟨rfl,hb⟩;refine ⟨_,rfl,?_⟩;replace BK291:=zb0 BK291 hb;replace BK292:=zb0 BK292 hb;replace BK293:=zb0 BK293 hb;replace HB:=zs0 HB hb;(try clear hb);obtain ⟨_,_⟩:=zn0 NB292_293;have hcz24_0:=zc00 BK292;have hcz24_1:=zc01 BK292;have hcz24_2:=zc02 BK292;have hcz24_3:=zc03 BK292;have hfz24_0:=blk_frozen BK292.out 0;have hfz24_1:=blk_frozen BK292.out 1;have hfz24_2:=blk_frozen BK292.out 2;have hfz24_3:=blk_frozen BK292.out 3) | (go_at_call 81;(with_reducible refine (spec_l03Name.calls a1_1 true _ A9.out).mono ?_);rintro e w' ⟨rfl,⟨nd,rfl⟩⟩))
      go_meet
      case rel => exact ⟨_,((a1_2.toList != ([] : List UInt8))),(by generalize a1_2.toList = z_;cases z_ <;> first | rfl | (simp;done) | (simp [*];done)),H',⟨by first | omega | exact Nat.le_refl _⟩,⟨zK0 BK291.out⟩,⟨zK0 BK292.out⟩,⟨zK0 BK293.out⟩,⟨zY0 HB.out⟩⟩
    ·rw [if_neg c11] at H
     have c11b0 : (a1_0 == 3) = false:=beq_eq_false_iff_ne.mpr c11
     have c11b1 : (a1_0 != 3) = true:=bne_iff_ne.mpr c11
     (first | rw [c11b0] | (simp only [i64_w,i32_w];rw [c11b0]) | skip)
     by_cases c25 : a1_3.toList = ([] : List UInt8)
     ·rw [if_pos c25] at H
      have c25b0 : (a1_3.toList == ([] : List UInt8)) = true:=beq_iff_eq.mpr c25
      have c25b1 : (a1_3.toList != ([] : List UInt8)) = false:=bne_eq_false_iff_eq.mpr c25
      clear c25
      by_cases c26 : a1_0 = 1
      ·rw [if_pos c26] at H
       have c26b0 : (a1_0 == 1) = true:=beq_iff_eq.mpr c26
       have c26b1 : (a1_0 != 1) = false:=bne_eq_false_iff_eq.mpr c26
       clear c26
       have H':=Aside0.mk H
       clear H
       obtain ⟨_,_⟩:=zn0 NB291_292
       obtain ⟨_,_⟩:=zn0 NB291_293
       have hcz29_0:=zc00 BK291
       have hfz29_0:=blk_frozen BK291.out 0
       go_wp2_with (first | ((with_reducible refine gate_callee (f:=68) rfl ?_);refine goesL_ (some 10) rfl rfl Try.func68 (by kernel_rfl) rfl #[.agg #[.slice A0_0 l0_0.length c0_0]] rfl zM0 ?_;(with_reducible refine (spec_DiskOk.calls k _ _ l0_0 true _ ?side1 ?side2 A7.out).mono ?_);(case side1 => exact zA0 (Kd.C_below HR0_0.out HB.out));(case side2 => exact HC0_0.out);rintro e w30 ⟨rfl,hb⟩;refine ⟨_,rfl,?_⟩;replace BK291:=zb0 BK291 hb;replace BK292:=zb0 BK292 hb;replace BK293:=zb0 BK293 hb;replace HB:=zs0 HB hb;(try clear hb);obtain ⟨_,_⟩:=zn0 NB292_293;have hcz32_0:=zc00 BK292;have hcz32_1:=zc01 BK292;have hcz32_2:=zc02 BK292;have hcz32_3:=zc03 BK292;have hfz32_0:=blk_frozen BK292.out 0;have hfz32_1:=blk_frozen BK292.out 1;have hfz32_2:=blk_frozen BK292.out 2;have hfz32_3:=blk_frozen BK292.out 3) | (go_at_call 81;(with_reducible refine (spec_l03Name.calls a1_1 true _ A9.out).mono ?_);rintro e w' ⟨rfl,⟨nd,rfl⟩⟩))
       go_meet
       case rel => exact ⟨_,(false),zE0,H',⟨by first | omega | exact Nat.le_refl _⟩,⟨zK0 BK291.out⟩,⟨zK0 BK292.out⟩,⟨zK0 BK293.out⟩,⟨zY0 HB.out⟩⟩
      ·rw [if_neg c26] at H
       have c26b0 : (a1_0 == 1) = false:=beq_eq_false_iff_ne.mpr c26
       have c26b1 : (a1_0 != 1) = true:=bne_iff_ne.mpr c26
       have H':=Aside0.mk H
       clear H
       obtain ⟨_,_⟩:=zn0 NB291_292
       obtain ⟨_,_⟩:=zn0 NB291_293
       have hcz35_0:=zc00 BK291
       have hfz35_0:=blk_frozen BK291.out 0
       go_wp2_with (first | ((with_reducible refine gate_callee (f:=68) rfl ?_);refine goesL_ (some 10) rfl rfl Try.func68 (by kernel_rfl) rfl #[.agg #[.slice A0_0 l0_0.length c0_0]] rfl zM0 ?_;(with_reducible refine (spec_DiskOk.calls k _ _ l0_0 true _ ?side1 ?side2 A7.out).mono ?_);(case side1 => exact zA0 (Kd.C_below HR0_0.out HB.out));(case side2 => exact HC0_0.out);rintro e w36 ⟨rfl,hb⟩;refine ⟨_,rfl,?_⟩;replace BK291:=zb0 BK291 hb;replace BK292:=zb0 BK292 hb;replace BK293:=zb0 BK293 hb;replace HB:=zs0 HB hb;(try clear hb);obtain ⟨_,_⟩:=zn0 NB292_293;have hcz38_0:=zc00 BK292;have hcz38_1:=zc01 BK292;have hcz38_2:=zc02 BK292;have hcz38_3:=zc03 BK292;have hfz38_0:=blk_frozen BK292.out 0;have hfz38_1:=blk_frozen BK292.out 1;have hfz38_2:=blk_frozen BK292.out 2;have hfz38_3:=blk_frozen BK292.out 3) | (go_at_call 81;(with_reducible refine (spec_l03Name.calls a1_1 true _ A9.out).mono ?_);rintro e w' ⟨rfl,⟨nd,rfl⟩⟩))
       go_meet
       case rel => exact ⟨_,((a1_2.toList != ([] : List UInt8))),(by generalize a1_2.toList = z_;cases z_ <;> first | rfl | (simp;done) | (simp [*];done)),H',⟨by first | omega | exact Nat.le_refl _⟩,⟨zK0 BK291.out⟩,⟨zK0 BK292.out⟩,⟨zK0 BK293.out⟩,⟨zY0 HB.out⟩⟩
     ·rw [if_neg c25] at H
      have c25b0 : (a1_3.toList == ([] : List UInt8)) = false:=beq_eq_false_iff_ne.mpr c25
      have c25b1 : (a1_3.toList != ([] : List UInt8)) = true:=bne_iff_ne.mpr c25
      have H':=Aside0.mk H
      clear H
      obtain ⟨_,_⟩:=zn0 NB291_292
      obtain ⟨_,_⟩:=zn0 NB291_293
      have hcz41_0:=zc00 BK291
      have hfz41_0:=blk_frozen BK291.out 0
      go_wp2_with (first | ((with_reducible refine gate_callee (f:=68) rfl ?_);refine goesL_ (some 10) rfl rfl Try.func68 (by kernel_rfl) rfl #[.agg #[.slice A0_0 l0_0.length c0_0]] rfl zM0 ?_;(with_reducible refine (spec_DiskOk.calls k _ _ l0_0 true _ ?side1 ?side2 A7.out).mono ?_);(case side1 => exact zA0 (Kd.C_below HR0_0.out HB.out));(case side2 => exact HC0_0.out);rintro e w42 ⟨rfl,hb⟩;refine ⟨_,rfl,?_⟩;replace BK291:=zb0 BK291 hb;replace BK292:=zb0 BK292 hb;replace BK293:=zb0 BK293 hb;replace HB:=zs0 HB hb;(try clear hb);obtain ⟨_,_⟩:=zn0 NB292_293;have hcz44_0:=zc00 BK292;have hcz44_1:=zc01 BK292;have hcz44_2:=zc02 BK292;have hcz44_3:=zc03 BK292;have hfz44_0:=blk_frozen BK292.out 0;have hfz44_1:=blk_frozen BK292.out 1;have hfz44_2:=blk_frozen BK292.out 2;have hfz44_3:=blk_frozen BK292.out 3) | (go_at_call 81;(with_reducible refine (spec_l03Name.calls a1_1 true _ A9.out).mono ?_);rintro e w' ⟨rfl,⟨nd,rfl⟩⟩))
      go_meet
      case rel => exact ⟨_,(true),zE0,H',⟨by first | omega | exact Nat.le_refl _⟩,⟨zK0 BK291.out⟩,⟨zK0 BK292.out⟩,⟨zK0 BK293.out⟩,⟨zY0 HB.out⟩⟩
   ·replace c10:=Bool.eq_false_iff.mpr c10
    subst c10
    have H1 : (spec_DoAct.j0 k true l0_0 a1_0 a1_1 a1_2 a1_3) = some (r1,r2):=by rw [if_neg (show ¬ (false = true) by decide)] at H;exact H
    clear H
    have H:=H1
    clear H1
    have H':=Aside0.mk H
    clear H
    obtain ⟨_,_⟩:=zn0 NB291_292
    obtain ⟨_,_⟩:=zn0 NB291_293
    have hcz47_0:=zc00 BK291
    have hfz47_0:=blk_frozen BK291.out 0
    go_wp2_with (first | ((with_reducible refine gate_callee (f:=68) rfl ?_);refine goesL_ (some 10) rfl rfl Try.func68 (by kernel_rfl) rfl #[.agg #[.slice A0_0 l0_0.length c0_0]] rfl zM0 ?_;(with_reducible refine (spec_DiskOk.calls k _ _ l0_0 true _ ?side1 ?side2 A7.out).mono ?_);(case side1 => exact zA0 (Kd.C_below HR0_0.out HB.out));(case side2 => exact HC0_0.out);rintro e w48 ⟨rfl,hb⟩;refine ⟨_,rfl,?_⟩;replace BK291:=zb0 BK291 hb;replace BK292:=zb0 BK292 hb;replace BK293:=zb0 BK293 hb;replace HB:=zs0 HB hb;(try clear hb);obtain ⟨_,_⟩:=zn0 NB292_293;have hcz50_0:=zc00 BK292;have hcz50_1:=zc01 BK292;have hcz50_2:=zc02 BK292;have hcz50_3:=zc03 BK292;have hfz50_0:=blk_frozen BK292.out 0;have hfz50_1:=blk_frozen BK292.out 1;have hfz50_2:=blk_frozen BK292.out 2;have hfz50_3:=blk_frozen BK292.out 3) | (go_at_call 81;(with_reducible refine (spec_l03Name.calls a1_1 false _ A9.out).mono ?_);rintro e w' ⟨rfl,⟨nd,rfl⟩⟩))
    go_meet
    case rel => exact ⟨_,(true),zE0,H',⟨by first | omega | exact Nat.le_refl _⟩,⟨zK0 BK291.out⟩,⟨zK0 BK292.out⟩,⟨zK0 BK293.out⟩,⟨zY0 HB.out⟩⟩
  ·replace c8:=Bool.eq_false_iff.mpr c8
   subst c8
   have H1 : (spec_DoAct.j0 k true l0_0 a1_0 a1_1 a1_2 a1_3) = some (r1,r2):=by rw [if_neg (show ¬ (false = true) by decide)] at H;exact H
   clear H
   have H:=H1
   clear H1
   have H':=Aside0.mk H
   clear H
   obtain ⟨_,_⟩:=zn0 NB291_292
   obtain ⟨_,_⟩:=zn0 NB291_293
   have hcz53_0:=zc00 BK291
   have hfz53_0:=blk_frozen BK291.out 0
   go_wp2_with (first | ((with_reducible refine gate_callee (f:=68) rfl ?_);refine goesL_ (some 10) rfl rfl Try.func68 (by kernel_rfl) rfl #[.agg #[.slice A0_0 l0_0.length c0_0]] rfl zM0 ?_;(with_reducible refine (spec_DiskOk.calls k _ _ l0_0 false _ ?side1 ?side2 A7.out).mono ?_);(case side1 => exact zA0 (Kd.C_below HR0_0.out HB.out));(case side2 => exact HC0_0.out);rintro e w54 ⟨rfl,hb⟩;refine ⟨_,rfl,?_⟩;replace BK291:=zb0 BK291 hb;replace BK292:=zb0 BK292 hb;replace BK293:=zb0 BK293 hb;replace HB:=zs0 HB hb;(try clear hb)))
   go_meet
   case rel => exact ⟨_,(true),zE0,H',⟨by first | omega | exact Nat.le_refl _⟩,⟨zK0 BK291.out⟩,⟨zK0 BK292.out⟩,⟨zK0 BK293.out⟩,⟨zY0 HB.out⟩⟩
 case rest =>
  clear HC3
  obtain ⟨kq,x37_2,rfl,HA,HJ2,BK291,BK292,BK293,HB⟩:=hcut
  cases kq with
  | zero => exact absurd HA.out (by simp [spec_DoAct.j0])
  | succ kj2 =>
   have H:=HA.out
   clear HA
   simp only [spec_DoAct.j0] at H
   by_cases c55 : x37_2 = true
   ·subst c55
    have H1 : (some (([] : List (S45)),false)) = some (r1,r2):=by rw [if_pos rfl] at H;exact H
    clear H
    have H:=H1
    clear H1
    simp only [Option.some.injEq,Prod.mk.injEq] at H
    obtain ⟨rfl,rfl⟩:=H
    obtain ⟨_,_⟩:=zn0 NB293_291
    obtain ⟨_,_⟩:=zn0 NB293_292
    have hcz58_0 : wc.cell? ⟨gb293,0,none⟩ = some (.slice none 0 0):=(blk_cell BK293.out 0).trans rfl
    have hfz58_0:=blk_frozen BK293.out 0
    go_wp2
    refine bodyPost_ret (results_ct rfl _ _ gb293 30 #[.slice none 0 0] (0,0) _ rfl (by refine zT0 ?_;refine blk_put (cs:=#[.slice none 0 0]) ?_ 0 _ rfl;exact zK0 BK293.out) Try.underlying30 rfl (by kernel_rfl)) rfl ?_
    exact ⟨_,zW0,by first | exact Kd.R_nil _ _ _ _ _ | exact Kd.N_nil _ _ _ _ _ | exact Kd.V_nil _ _ _ _ _ | exact Kd.Q_nil _ _ _ _ _ | exact Kd.S_nil _ _ _ _ _,(zY0 HB.out)⟩
   ·replace c55:=Bool.eq_false_iff.mpr c55
    subst c55
    have H1 : ((spec_l03At.f kj2 l0_0 a1_1).bind fun t296 => (if t296 ≥ 0 then (if 0 ≤ t296 then (if t296 < (l0_0.length : Int) then (spec_DoAct.j1 kj2 t296 l0_0 a1_0 a1_1 a1_2 a1_3 ((rd_T45 l0_0 t296).f0) ((rd_T45 l0_0 t296).f1) ((rd_T45 l0_0 t296).f2)) else (none)) else (none)) else (spec_DoAct.j1 kj2 t296 l0_0 a1_0 a1_1 a1_2 a1_3 a1_1 (⟨#[]⟩ : ByteArray) 0))) = some (r1,r2):=by rw [if_neg (show ¬ (false = true) by decide)] at H;exact H
    clear H
    have H:=H1
    clear H1
    replace H:=Option.bind_eq_some_iff.mp H
    obtain ⟨t296,A590,H⟩:=H
    replace H : (if t296 ≥ 0 then (if 0 ≤ t296 then (if t296 < (l0_0.length : Int) then (spec_DoAct.j1 kj2 t296 l0_0 a1_0 a1_1 a1_2 a1_3 ((rd_T45 l0_0 t296).f0) ((rd_T45 l0_0 t296).f1) ((rd_T45 l0_0 t296).f2)) else (none)) else (none)) else (spec_DoAct.j1 kj2 t296 l0_0 a1_0 a1_1 a1_2 a1_3 a1_1 (⟨#[]⟩ : ByteArray) 0)) = some (r1,r2):=H
    have A59:=Aside0.mk A590
    clear A590
    have HC60:=Aside0.mk H
    clear H
    obtain ⟨_,_⟩:=zn0 NB291_292
    obtain ⟨_,_⟩:=zn0 NB291_293
    have hcz63_0 : wc.cell? ⟨gb291,0,none⟩ = some (.slice A0_0 l0_0.length c0_0):=(blk_cell BK291.out 0).trans rfl
    have hfz63_0:=blk_frozen BK291.out 0
    obtain ⟨_,_⟩:=zn0 NB292_293
    have hcz65_0 : wc.cell? ⟨gb292,0,none⟩ = some (.int .i64 a1_0):=(blk_cell BK292.out 0).trans rfl
    have hcz65_1 : wc.cell? ⟨gb292,1,none⟩ = some (.string a1_1):=(blk_cell BK292.out 1).trans rfl
    have hcz65_2 : wc.cell? ⟨gb292,2,none⟩ = some (.string a1_2):=(blk_cell BK292.out 2).trans rfl
    have hcz65_3 : wc.cell? ⟨gb292,3,none⟩ = some (.string a1_3):=(blk_cell BK292.out 3).trans rfl
    have hfz65_0:=blk_frozen BK292.out 0
    have hfz65_1:=blk_frozen BK292.out 1
    have hfz65_2:=blk_frozen BK292.out 2
    have hfz65_3:=blk_frozen BK292.out 3
    go_upto_if 47 with (first | ((with_reducible refine gate_callee (f:=64) rfl ?_);refine goesL_ (some 42) rfl rfl Try.func64 (by kernel_rfl) rfl #[.agg #[.slice A0_0 l0_0.length c0_0],.string a1_1] rfl zM0 ?_;(with_reducible refine (spec_l03At.calls kj2 _ _ l0_0 a1_1 t296 _ ?side1 ?side2 A59.out).mono ?_);(case side1 => exact zA0 (Kd.C_below HR0_0.out HB.out));(case side2 => exact HC0_0.out);rintro e w66 ⟨rfl,hb⟩;refine ⟨_,rfl,?_⟩;replace BK291:=zb0 BK291 hb;replace BK292:=zb0 BK292 hb;replace BK293:=zb0 BK293 hb;replace HB:=zs0 HB hb;(try clear hb);have hcz67_0:=zc00 BK292;have hcz67_1:=zc01 BK292;have hcz67_2:=zc02 BK292;have hcz67_3:=zc03 BK292;have hfz67_0:=blk_frozen BK292.out 0;have hfz67_1:=blk_frozen BK292.out 1;have hfz67_2:=blk_frozen BK292.out 2;have hfz67_3:=blk_frozen BK292.out 3) | ((with_reducible refine gate_dst (N:=7) rfl ?_);refine box_event ?hg (N:=7) ?hd (cs:=#[.string (⟨#[]⟩ : ByteArray),.string (⟨#[]⟩ : ByteArray),.int .i64 0]) (t:=45) ?hr ?_;(case hd => rfl);(case hg => rfl);(case hr => first | (go_simp;done) | (go_simp;rfl));intro gb297 hg w68 hbox hb;have BK297:=Aside0.mk hbox;have GW297:=zz0 hg HB;have GE297:=zz0 hg HB;replace HB:=zs0 HB hb;have NB291_297:=zl0 hg BK291;have NB297_291:=zg0 hg BK291;replace BK291:=zb0 BK291 hb;have NB292_297:=zl0 hg BK292;have NB297_292:=zg0 hg BK292;replace BK292:=zb0 BK292 hb;have NB293_297:=zl0 hg BK293;have NB297_293:=zg0 hg BK293;replace BK293:=zb0 BK293 hb;clear hb hbox hg;obtain ⟨_,_⟩:=zn0 NB297_291;obtain ⟨_,_⟩:=zn0 NB297_292;obtain ⟨_,_⟩:=zn0 NB297_293;have hcz72_0:=zc00 BK297;have hcz72_1:=zc01 BK297;have hcz72_2:=zc02 BK297;have hfz72_0:=blk_frozen BK297.out 0;have hfz72_1:=blk_frozen BK297.out 1;have hfz72_2:=blk_frozen BK297.out 2))
    (try simp only [Act.put,qA0,qB0,qC0])
    go_cut [] (fun wc => ∃ (kq : Nat) (x298000_59 : ByteArray) (x298001_59 : ByteArray) (x298002_59 : Int),Aside0 (spec_DoAct.j1 kq t296 l0_0 a1_0 a1_1 a1_2 a1_3 x298000_59 x298001_59 x298002_59 = some (r1,r2)) ∧ Aside0 (kq ≤ kj2) ∧ Aside0 (wc.heap[gb291]? = some (.cells #[(.slice A0_0 l0_0.length c0_0)] 30 (0,0))) ∧ Aside0 (wc.heap[gb292]? = some (.cells #[.int .i64 a1_0,.string a1_1,.string a1_2,.string a1_3] 55 (0,0))) ∧ Aside0 (wc.heap[gb293]? = some (.cells #[(.slice none 0 0)] 30 (0,0))) ∧ Aside0 (wc.heap[gb297]? = some (.cells #[.string x298000_59,.string x298001_59,.int .i64 x298002_59] 45 (0,0))) ∧ Aside0 (Below w.heap.size w wc))
    case first =>
     have H:=HC60.out
     clear HC60
     by_cases c73 : t296 ≥ 0
     ·rw [if_pos c73] at H
      have c73b0 : decide (0 ≤ t296) = true:=decide_eq_true c73
      clear c73
      (first | rw [c73b0] | (simp only [i64_w,i32_w];rw [c73b0]) | skip)
      by_cases c74 : 0 ≤ t296
      ·rw [if_pos c74] at H
       have c74b0 : decide (0 ≤ t296) = true:=decide_eq_true c74
       clear c74
       by_cases c75 : t296 < (l0_0.length : Int)
       ·rw [if_pos c75] at H
        have c75b0 : decide (t296 < (l0_0.length : Int)) = true:=decide_eq_true c75
        clear c75
        have H':=Aside0.mk H
        clear H
        obtain ⟨_,_⟩:=zn0 NB291_292
        obtain ⟨_,_⟩:=zn0 NB291_293
        obtain ⟨_,_⟩:=zn0 NB291_297
        have hcz79_0:=zc00 BK291
        have hfz79_0:=blk_frozen BK291.out 0
        have p298 : 0 ≤ (t296 : Int):=zD0
        have q298 : t296 < (l0_0.length : Int):=zD0
        obtain ⟨ad298,e298,hx298_0,hx298_1,hx298_2⟩:=at_T45 HR0_0.out t296 p298 q298
        cases e298
        have hn298_0 : ad298.block ≠ gb297:=Nat.ne_of_lt (Nat.lt_of_lt_of_le (by have:=World.block_lt_of_cell? _ _ hx298_0;first | rwa [add_block] at this | exact this) GW297.out)
        have hn298_1 : ad298.block ≠ gb297:=Nat.ne_of_lt (Nat.lt_of_lt_of_le (by have:=World.block_lt_of_cell? _ _ hx298_0;first | rwa [add_block] at this | exact this) GW297.out)
        have hn298_2 : ad298.block ≠ gb297:=Nat.ne_of_lt (Nat.lt_of_lt_of_le (by have:=World.block_lt_of_cell? _ _ hx298_0;first | rwa [add_block] at this | exact this) GW297.out)
        replace hx298_0:=zx0 HB hx298_0
        replace hx298_1:=zx0 HB hx298_1
        replace hx298_2:=zx0 HB hx298_2
        replace hx298_0:=(cell_far (p:=⟨gb297,0,none⟩) (by first | (rw [add_block];exact hn298_0) | (show (Addr.add _ _).block ≠ _;rw [add_block];exact hn298_0) | exact hn298_0) (.string a1_1)).trans hx298_0
        replace hx298_1:=(cell_far (p:=⟨gb297,0,none⟩) (by first | (rw [add_block];exact hn298_0) | (show (Addr.add _ _).block ≠ _;rw [add_block];exact hn298_0) | exact hn298_0) (.string a1_1)).trans hx298_1
        replace hx298_2:=(cell_far (p:=⟨gb297,0,none⟩) (by first | (rw [add_block];exact hn298_0) | (show (Addr.add _ _).block ≠ _;rw [add_block];exact hn298_0) | exact hn298_0) (.string a1_1)).trans hx298_2
        replace hx298_0:=(cell_far (p:=⟨gb297,1,none⟩) (by first | (rw [add_block];exact hn298_1) | (show (Addr.add _ _).block ≠ _;rw [add_block];exact hn298_1) | exact hn298_1) (.string (⟨#[]⟩ : ByteArray))).trans hx298_0
        replace hx298_1:=(cell_far (p:=⟨gb297,1,none⟩) (by first | (rw [add_block];exact hn298_1) | (show (Addr.add _ _).block ≠ _;rw [add_block];exact hn298_1) | exact hn298_1) (.string (⟨#[]⟩ : ByteArray))).trans hx298_1
        replace hx298_2:=(cell_far (p:=⟨gb297,1,none⟩) (by first | (rw [add_block];exact hn298_1) | (show (Addr.add _ _).block ≠ _;rw [add_block];exact hn298_1) | exact hn298_1) (.string (⟨#[]⟩ : ByteArray))).trans hx298_2
        replace hx298_0:=(cell_far (p:=⟨gb297,2,none⟩) (by first | (rw [add_block];exact hn298_2) | (show (Addr.add _ _).block ≠ _;rw [add_block];exact hn298_2) | exact hn298_2) (.int .i64 0)).trans hx298_0
        replace hx298_1:=(cell_far (p:=⟨gb297,2,none⟩) (by first | (rw [add_block];exact hn298_2) | (show (Addr.add _ _).block ≠ _;rw [add_block];exact hn298_2) | exact hn298_2) (.int .i64 0)).trans hx298_1
        replace hx298_2:=(cell_far (p:=⟨gb297,2,none⟩) (by first | (rw [add_block];exact hn298_2) | (show (Addr.add _ _).block ≠ _;rw [add_block];exact hn298_2) | exact hn298_2) (.int .i64 0)).trans hx298_2
        clear hn298_0 hn298_1 hn298_2
        replace p298:=eq_true p298
        replace q298:=eq_true q298
        obtain ⟨_,_⟩:=zn0 NB297_292
        obtain ⟨_,_⟩:=zn0 NB297_293
        have hcz82_0:=zc00 BK297
        have hcz82_1:=zc01 BK297
        have hcz82_2:=zc02 BK297
        have hfz82_0:=blk_frozen BK297.out 0
        have hfz82_1:=blk_frozen BK297.out 1
        have hfz82_2:=blk_frozen BK297.out 2
        go_wp2
        go_meet
        case rel => exact ⟨_,((rd_T45 l0_0 t296).f0),((rd_T45 l0_0 t296).f1),((rd_T45 l0_0 t296).f2),H',⟨by have:=HJ2.out;first | omega | exact Nat.le_refl _⟩,⟨zK0 BK291.out⟩,⟨zK0 BK292.out⟩,⟨zK0 BK293.out⟩,⟨by refine zT0 ?_;refine blk_put (cs:=#[.string ((rd_T45 l0_0 t296).f0),.string ((rd_T45 l0_0 t296).f1),.int .i64 0]) ?_ 2 _ rfl;refine zT0 ?_;refine blk_put (cs:=#[.string ((rd_T45 l0_0 t296).f0),.string (⟨#[]⟩ : ByteArray),.int .i64 0]) ?_ 1 _ rfl;refine zT0 ?_;refine blk_put (cs:=#[.string a1_1,.string (⟨#[]⟩ : ByteArray),.int .i64 0]) ?_ 0 _ rfl;refine zT0 ?_;refine blk_put (cs:=#[.string a1_1,.string (⟨#[]⟩ : ByteArray),.int .i64 0]) ?_ 2 _ rfl;refine zT0 ?_;refine blk_put (cs:=#[.string a1_1,.string (⟨#[]⟩ : ByteArray),.int .i64 0]) ?_ 1 _ rfl;refine zT0 ?_;refine blk_put (cs:=#[.string (⟨#[]⟩ : ByteArray),.string (⟨#[]⟩ : ByteArray),.int .i64 0]) ?_ 0 _ rfl;exact zK0 BK297.out⟩,⟨zY0 HB.out⟩⟩
       ·rw [if_neg c75] at H
        exact absurd H (by simp)
      ·rw [if_neg c74] at H
       exact absurd H (by simp)
     ·rw [if_neg c73] at H
      have c73b0 : decide (0 ≤ t296) = false:=decide_eq_false c73
      clear c73
      (first | rw [c73b0] | (simp only [i64_w,i32_w];rw [c73b0]) | skip)
      have H':=Aside0.mk H
      clear H
      go_wp2
      go_meet
      case rel => exact ⟨_,(a1_1),((⟨#[]⟩ : ByteArray)),(0),H',⟨by have:=HJ2.out;first | omega | exact Nat.le_refl _⟩,⟨zK0 BK291.out⟩,⟨zK0 BK292.out⟩,⟨zK0 BK293.out⟩,⟨by refine zT0 ?_;refine blk_put (cs:=#[.string a1_1,.string (⟨#[]⟩ : ByteArray),.int .i64 0]) ?_ 2 _ rfl;refine zT0 ?_;refine blk_put (cs:=#[.string a1_1,.string (⟨#[]⟩ : ByteArray),.int .i64 0]) ?_ 1 _ rfl;refine zT0 ?_;refine blk_put (cs:=#[.string (⟨#[]⟩ : ByteArray),.string (⟨#[]⟩ : ByteArray),.int .i64 0]) ?_ 0 _ rfl;exact zK0 BK297.out⟩,⟨zY0 HB.out⟩⟩
    case rest =>
     clear HC60
     try clear c55
     try clear hcz63_0
     try clear hcz65_0
     try clear hcz65_1
     try clear hcz65_2
     try clear hcz65_3
     try clear hcz67_0
     try clear hcz67_1
     try clear hcz67_2
     try clear hcz67_3
     try clear hcz72_0
     try clear hcz72_1
     try clear hcz72_2
     try clear hfz63_0
     try clear hfz65_0
     try clear hfz65_1
     try clear hfz65_2
     try clear hfz65_3
     try clear hfz67_0
     try clear hfz67_1
     try clear hfz67_2
     try clear hfz67_3
     try clear hfz72_0
     try clear hfz72_1
     try clear hfz72_2
     obtain ⟨kq,x298000_59,x298001_59,x298002_59,HA,HJ59,BK291,BK292,BK293,BK297,HB⟩:=hcut
     cases kq with
     | zero => exact absurd HA.out (by simp [spec_DoAct.j1])
     | succ kj59 =>
      have H:=HA.out
      clear HA
      simp only [spec_DoAct.j1] at H
      by_cases c83 : a1_0 = 1
      ·rw [if_pos c83] at H
       have c83b0 : (a1_0 == 1) = true:=beq_iff_eq.mpr c83
       have c83b1 : (a1_0 != 1) = false:=bne_eq_false_iff_eq.mpr c83
       clear c83
       by_cases c84 : x298001_59.size + a1_2.size ≤ 9223372036854775807
       ·rw [if_pos c84] at H
        have c84b0:=eq_true c84
        have c84b1 : decide (x298001_59.size + a1_2.size ≤ 9223372036854775807) = true:=decide_eq_true c84
        try have c84b2 : (9223372036854775807 < x298001_59.size + a1_2.size) = False:=eq_false (Nat.not_lt.2 c84)
        replace H:=Option.bind_eq_some_iff.mp H
        obtain ⟨t300,A850,H⟩:=H
        replace H : ((spec_DiskOk.f kj59 t300).bind fun t303 => (if t303 = true then (some (t300,true)) else (some (([] : List (S45)),false)))) = some (r1,r2):=H
        have A85:=Aside0.mk A850
        clear A850
        replace H:=Option.bind_eq_some_iff.mp H
        obtain ⟨t303,A860,H⟩:=H
        replace H : (if t303 = true then (some (t300,true)) else (some (([] : List (S45)),false))) = some (r1,r2):=H
        have A86:=Aside0.mk A860
        clear A860
        by_cases c87 : t303 = true
        ·subst c87
         have H1 : (some (t300,true)) = some (r1,r2):=by rw [if_pos rfl] at H;exact H
         clear H
         have H:=H1
         clear H1
         simp only [Option.some.injEq,Prod.mk.injEq] at H
         obtain ⟨rfl,rfl⟩:=H
         go_wp2_with (first | ((with_reducible refine gate_dst (N:=8) rfl ?_);refine box_event ?hg (N:=8) ?hd (cs:=#[.slice none 0 0]) (t:=30) ?hr ?_;(case hd => rfl);(case hg => rfl);(case hr => first | (go_simp;done) | (go_simp;rfl));intro gb299 hg w88 hbox hb;have BK299:=Aside0.mk hbox;have GW299:=zz0 hg HB;have GE299:=zz0 hg HB;replace HB:=zs0 HB hb;have NB291_299:=zl0 hg BK291;have NB299_291:=zg0 hg BK291;replace BK291:=zb0 BK291 hb;have NB292_299:=zl0 hg BK292;have NB299_292:=zg0 hg BK292;replace BK292:=zb0 BK292 hb;have NB293_299:=zl0 hg BK293;have NB299_293:=zg0 hg BK293;replace BK293:=zb0 BK293 hb;have NB297_299:=zl0 hg BK297;have NB299_297:=zg0 hg BK297;replace BK297:=zb0 BK297 hb;clear hb hbox hg;obtain ⟨_,_⟩:=zn0 NB299_291;obtain ⟨_,_⟩:=zn0 NB299_292;obtain ⟨_,_⟩:=zn0 NB299_293;obtain ⟨_,_⟩:=zn0 NB299_297;have hcz93_0:=zc00 BK299;have hfz93_0:=blk_frozen BK299.out 0;obtain ⟨_,_⟩:=zn0 NB292_291;obtain ⟨_,_⟩:=zn0 NB292_293;obtain ⟨_,_⟩:=zn0 NB292_297;have hcz97_0:=zc00 BK292;have hcz97_1:=zc01 BK292;have hcz97_2:=zc02 BK292;have hcz97_3:=zc03 BK292;have hfz97_0:=blk_frozen BK292.out 0;have hfz97_1:=blk_frozen BK292.out 1;have hfz97_2:=blk_frozen BK292.out 2;have hfz97_3:=blk_frozen BK292.out 3;obtain ⟨_,_⟩:=zn0 NB297_291;obtain ⟨_,_⟩:=zn0 NB297_293;have hcz100_0:=zc00 BK297;have hcz100_1:=zc01 BK297;have hcz100_2:=zc02 BK297;have hfz100_0:=blk_frozen BK297.out 0;have hfz100_1:=blk_frozen BK297.out 1;have hfz100_2:=blk_frozen BK297.out 2;obtain ⟨_,_⟩:=zn0 NB291_293;have hcz102_0:=zc00 BK291;have hfz102_0:=blk_frozen BK291.out 0) | ((with_reducible refine gate_callee (f:=74) rfl ?_);refine goesL_ (some 67) rfl rfl Try.func74 (by kernel_rfl) rfl #[.agg #[.slice A0_0 l0_0.length c0_0],.agg #[.string x298000_59,.string (x298001_59 ++ a1_2),.int .i64 x298002_59]] rfl zM0 ?_;(with_reducible refine (spec_l03Put.calls kj59 _ _ l0_0 x298000_59 (x298001_59 ++ a1_2) x298002_59 t300 _ ?side1 ?side2 A85.out).mono ?_);(case side1 => exact Kd.C_below HR0_0.out (zY0 HB.out));(case side2 => exact HC0_0.out);rintro e w103 ⟨v301,rfl,ho0,hb⟩;refine ⟨_,rfl,?_⟩;have HO302:=Aside0.mk (Kd.R_lower (Kd.R_newB ho0 (g:=gb297) (o:=.cells #[.string x298000_59,.string (x298001_59 ++ a1_2),.int .i64 x298002_59] 45 (0,0)) (by refine zT0 ?_;refine blk_put (cs:=#[.string x298000_59,.string x298001_59,.int .i64 x298002_59]) ?_ 1 _ rfl;exact zK0 BK297.out)) (zZ0 HB.out));replace BK291:=zb0 BK291 hb;replace BK292:=zb0 BK292 hb;replace BK293:=zb0 BK293 hb;replace BK297:=Aside0.mk (blk_below (g:=gb297) (o:=.cells #[.string x298000_59,.string (x298001_59 ++ a1_2),.int .i64 x298002_59] 45 (0,0)) (by refine zT0 ?_;refine blk_put (cs:=#[.string x298000_59,.string x298001_59,.int .i64 x298002_59]) ?_ 1 _ rfl;exact zK0 BK297.out) hb);replace BK299:=Aside0.mk (blk_below (g:=gb299) (o:=.cells #[.slice none 0 0] 30 (0,0)) (by refine zT0 ?_;refine blk_put (cs:=#[.slice none 0 0]) ?_ 0 _ rfl;exact zK0 BK299.out) hb);replace HB:=zs0 HB hb;(try clear hb);(try clear ho0);obtain ⟨Ao104,co104,eo104⟩:=Kd.R_slice HO302.out;subst eo104;have hcz105_0:=zc00 BK299;have hfz105_0:=blk_frozen BK299.out 0) | ((with_reducible refine gate_callee (f:=68) rfl ?_);refine goesL_ (some 125) rfl rfl Try.func68 (by kernel_rfl) rfl #[.agg #[.slice Ao104 t300.length co104]] rfl zM0 ?_;(with_reducible refine (spec_DiskOk.calls kj59 _ _ t300 true _ ?side1 ?side2 A86.out).mono ?_);(case side1 => refine (Kd.R_reads' (e:=45) (base:=w.heap.size) (ok:=fun k_ => (True ∧ k_ ≠ gb297)) (n:=t300.length) (c:=co104) ?_).2.2;exact (by refine zV0 ?_;exact (Kd.R_mono (Kd.R_far (p:=⟨gb299,0,none⟩) (Kd.R_types HO302.out BK299.out (by decide)) (fun _ hk => hk.2) (.slice Ao104 t300.length co104)) (fun _ h_ => h_.1))));(case side2 => exact (Kd.R_reads' HO302.out).2.1);rintro e w106 ⟨rfl,hb⟩;refine ⟨_,rfl,?_⟩;replace HO302:=Aside0.mk (Kd.R_below (by refine zV0 ?_;exact (Kd.R_mono (Kd.R_far (p:=⟨gb299,0,none⟩) (Kd.R_types HO302.out BK299.out (by decide)) (fun _ hk => hk.2) (.slice Ao104 t300.length co104)) (fun _ h_ => h_.1))) hb);replace BK291:=zb0 BK291 hb;replace BK292:=zb0 BK292 hb;replace BK293:=zb0 BK293 hb;replace BK297:=zb0 BK297 hb;replace BK299:=Aside0.mk (blk_below (g:=gb299) (o:=.cells #[.slice Ao104 t300.length co104] 30 (0,0)) (by refine zT0 ?_;refine blk_put (cs:=#[.slice none 0 0]) ?_ 0 _ rfl;exact zK0 BK299.out) hb);replace HB:=zs0 HB hb;(try clear hb);(try clear hk);have hcz107_0:=zc00 BK299;have hfz107_0:=blk_frozen BK299.out 0;have hcz108_0:=zc00 BK293;have hfz108_0:=blk_frozen BK293.out 0))
         refine bodyPost_ret (results_ct rfl _ _ gb293 30 #[.slice Ao104 t300.length co104] (0,0) _ rfl (by refine zT0 ?_;refine blk_put (cs:=#[.slice none 0 0]) ?_ 0 _ rfl;exact zK0 BK293.out) Try.underlying30 rfl (by kernel_rfl)) rfl ?_
         exact ⟨_,zW0,by refine zV0 ?_;exact Kd.R_mono (Kd.R_far (p:=⟨gb293,0,none⟩) (Kd.R_types HO302.out BK293.out (by decide)) (fun _ hk => hk.2) (.slice Ao104 t300.length co104)) (fun _ hk => trivial),(zY0 HB.out)⟩
        ·replace c87:=Bool.eq_false_iff.mpr c87
         subst c87
         have H1 : (some (([] : List (S45)),false)) = some (r1,r2):=by rw [if_neg (show ¬ (false = true) by decide)] at H;exact H
         clear H
         have H:=H1
         clear H1
         simp only [Option.some.injEq,Prod.mk.injEq] at H
         obtain ⟨rfl,rfl⟩:=H
         go_wp2_with (first | ((with_reducible refine gate_dst (N:=8) rfl ?_);refine box_event ?hg (N:=8) ?hd (cs:=#[.slice none 0 0]) (t:=30) ?hr ?_;(case hd => rfl);(case hg => rfl);(case hr => first | (go_simp;done) | (go_simp;rfl));intro gb299 hg w109 hbox hb;have BK299:=Aside0.mk hbox;have GW299:=zz0 hg HB;have GE299:=zz0 hg HB;replace HB:=zs0 HB hb;have NB291_299:=zl0 hg BK291;have NB299_291:=zg0 hg BK291;replace BK291:=zb0 BK291 hb;have NB292_299:=zl0 hg BK292;have NB299_292:=zg0 hg BK292;replace BK292:=zb0 BK292 hb;have NB293_299:=zl0 hg BK293;have NB299_293:=zg0 hg BK293;replace BK293:=zb0 BK293 hb;have NB297_299:=zl0 hg BK297;have NB299_297:=zg0 hg BK297;replace BK297:=zb0 BK297 hb;clear hb hbox hg;obtain ⟨_,_⟩:=zn0 NB299_291;obtain ⟨_,_⟩:=zn0 NB299_292;obtain ⟨_,_⟩:=zn0 NB299_293;obtain ⟨_,_⟩:=zn0 NB299_297;have hcz114_0:=zc00 BK299;have hfz114_0:=blk_frozen BK299.out 0;obtain ⟨_,_⟩:=zn0 NB292_291;obtain ⟨_,_⟩:=zn0 NB292_293;obtain ⟨_,_⟩:=zn0 NB292_297;have hcz118_0:=zc00 BK292;have hcz118_1:=zc01 BK292;have hcz118_2:=zc02 BK292;have hcz118_3:=zc03 BK292;have hfz118_0:=blk_frozen BK292.out 0;have hfz118_1:=blk_frozen BK292.out 1;have hfz118_2:=blk_frozen BK292.out 2;have hfz118_3:=blk_frozen BK292.out 3;obtain ⟨_,_⟩:=zn0 NB297_291;obtain ⟨_,_⟩:=zn0 NB297_293;have hcz121_0:=zc00 BK297;have hcz121_1:=zc01 BK297;have hcz121_2:=zc02 BK297;have hfz121_0:=blk_frozen BK297.out 0;have hfz121_1:=blk_frozen BK297.out 1;have hfz121_2:=blk_frozen BK297.out 2;obtain ⟨_,_⟩:=zn0 NB291_293;have hcz123_0:=zc00 BK291;have hfz123_0:=blk_frozen BK291.out 0) | ((with_reducible refine gate_callee (f:=74) rfl ?_);refine goesL_ (some 67) rfl rfl Try.func74 (by kernel_rfl) rfl #[.agg #[.slice A0_0 l0_0.length c0_0],.agg #[.string x298000_59,.string (x298001_59 ++ a1_2),.int .i64 x298002_59]] rfl zM0 ?_;(with_reducible refine (spec_l03Put.calls kj59 _ _ l0_0 x298000_59 (x298001_59 ++ a1_2) x298002_59 t300 _ ?side1 ?side2 A85.out).mono ?_);(case side1 => exact Kd.C_below HR0_0.out (zY0 HB.out));(case side2 => exact HC0_0.out);rintro e w124 ⟨v301,rfl,ho0,hb⟩;refine ⟨_,rfl,?_⟩;have HO302:=Aside0.mk (Kd.R_lower (Kd.R_newB ho0 (g:=gb297) (o:=.cells #[.string x298000_59,.string (x298001_59 ++ a1_2),.int .i64 x298002_59] 45 (0,0)) (by refine zT0 ?_;refine blk_put (cs:=#[.string x298000_59,.string x298001_59,.int .i64 x298002_59]) ?_ 1 _ rfl;exact zK0 BK297.out)) (zZ0 HB.out));replace BK291:=zb0 BK291 hb;replace BK292:=zb0 BK292 hb;replace BK293:=zb0 BK293 hb;replace BK297:=Aside0.mk (blk_below (g:=gb297) (o:=.cells #[.string x298000_59,.string (x298001_59 ++ a1_2),.int .i64 x298002_59] 45 (0,0)) (by refine zT0 ?_;refine blk_put (cs:=#[.string x298000_59,.string x298001_59,.int .i64 x298002_59]) ?_ 1 _ rfl;exact zK0 BK297.out) hb);replace BK299:=Aside0.mk (blk_below (g:=gb299) (o:=.cells #[.slice none 0 0] 30 (0,0)) (by refine zT0 ?_;refine blk_put (cs:=#[.slice none 0 0]) ?_ 0 _ rfl;exact zK0 BK299.out) hb);replace HB:=zs0 HB hb;(try clear hb);(try clear ho0);obtain ⟨Ao125,co125,eo125⟩:=Kd.R_slice HO302.out;subst eo125;have hcz126_0:=zc00 BK299;have hfz126_0:=blk_frozen BK299.out 0) | ((with_reducible refine gate_callee (f:=68) rfl ?_);refine goesL_ (some 125) rfl rfl Try.func68 (by kernel_rfl) rfl #[.agg #[.slice Ao125 t300.length co125]] rfl zM0 ?_;(with_reducible refine (spec_DiskOk.calls kj59 _ _ t300 false _ ?side1 ?side2 A86.out).mono ?_);(case side1 => refine (Kd.R_reads' (e:=45) (base:=w.heap.size) (ok:=fun k_ => (True ∧ k_ ≠ gb297)) (n:=t300.length) (c:=co125) ?_).2.2;exact (by refine zV0 ?_;exact (Kd.R_mono (Kd.R_far (p:=⟨gb299,0,none⟩) (Kd.R_types HO302.out BK299.out (by decide)) (fun _ hk => hk.2) (.slice Ao125 t300.length co125)) (fun _ h_ => h_.1))));(case side2 => exact (Kd.R_reads' HO302.out).2.1);rintro e w127 ⟨rfl,hb⟩;refine ⟨_,rfl,?_⟩;replace HO302:=Aside0.mk (Kd.R_below (by refine zV0 ?_;exact (Kd.R_mono (Kd.R_far (p:=⟨gb299,0,none⟩) (Kd.R_types HO302.out BK299.out (by decide)) (fun _ hk => hk.2) (.slice Ao125 t300.length co125)) (fun _ h_ => h_.1))) hb);replace BK291:=zb0 BK291 hb;replace BK292:=zb0 BK292 hb;replace BK293:=zb0 BK293 hb;replace BK297:=zb0 BK297 hb;replace BK299:=Aside0.mk (blk_below (g:=gb299) (o:=.cells #[.slice Ao125 t300.length co125] 30 (0,0)) (by refine zT0 ?_;refine blk_put (cs:=#[.slice none 0 0]) ?_ 0 _ rfl;exact zK0 BK299.out) hb);replace HB:=zs0 HB hb;(try clear hb);(try clear hk);have hcz128_0:=zc00 BK293;have hfz128_0:=blk_frozen BK293.out 0))
         refine bodyPost_ret (results_ct rfl _ _ gb293 30 #[.slice none 0 0] (0,0) _ rfl (by refine zT0 ?_;refine blk_put (cs:=#[.slice none 0 0]) ?_ 0 _ rfl;exact zK0 BK293.out) Try.underlying30 rfl (by kernel_rfl)) rfl ?_
         exact ⟨_,zW0,by first | exact Kd.R_nil _ _ _ _ _ | exact Kd.N_nil _ _ _ _ _ | exact Kd.V_nil _ _ _ _ _ | exact Kd.Q_nil _ _ _ _ _ | exact Kd.S_nil _ _ _ _ _,(zY0 HB.out)⟩
       ·rw [if_neg c84] at H
        exact absurd H (by simp)
      ·rw [if_neg c83] at H
       have c83b0 : (a1_0 == 1) = false:=beq_eq_false_iff_ne.mpr c83
       have c83b1 : (a1_0 != 1) = true:=bne_iff_ne.mpr c83
       by_cases c129 : t296 < 0
       ·rw [if_pos c129] at H
        have c129b0 : decide (t296 < 0) = true:=decide_eq_true c129
        clear c129
        simp only [Option.some.injEq,Prod.mk.injEq] at H
        obtain ⟨rfl,rfl⟩:=H
        go_wp2_with (first | ((with_reducible refine gate_dst (N:=8) rfl ?_);refine box_event ?hg (N:=8) ?hd (cs:=#[.slice none 0 0]) (t:=30) ?hr ?_;(case hd => rfl);(case hg => rfl);(case hr => first | (go_simp;done) | (go_simp;rfl));intro gb299 hg w130 hbox hb;have BK299:=Aside0.mk hbox;have GW299:=zz0 hg HB;have GE299:=zz0 hg HB;replace HB:=zs0 HB hb;have NB291_299:=zl0 hg BK291;have NB299_291:=zg0 hg BK291;replace BK291:=zb0 BK291 hb;have NB292_299:=zl0 hg BK292;have NB299_292:=zg0 hg BK292;replace BK292:=zb0 BK292 hb;have NB293_299:=zl0 hg BK293;have NB299_293:=zg0 hg BK293;replace BK293:=zb0 BK293 hb;have NB297_299:=zl0 hg BK297;have NB299_297:=zg0 hg BK297;replace BK297:=zb0 BK297 hb;clear hb hbox hg;obtain ⟨_,_⟩:=zn0 NB299_291;obtain ⟨_,_⟩:=zn0 NB299_292;obtain ⟨_,_⟩:=zn0 NB299_293;obtain ⟨_,_⟩:=zn0 NB299_297;have hcz135_0:=zc00 BK299;have hfz135_0:=blk_frozen BK299.out 0;obtain ⟨_,_⟩:=zn0 NB292_291;obtain ⟨_,_⟩:=zn0 NB292_293;obtain ⟨_,_⟩:=zn0 NB292_297;have hcz139_0:=zc00 BK292;have hcz139_1:=zc01 BK292;have hcz139_2:=zc02 BK292;have hcz139_3:=zc03 BK292;have hfz139_0:=blk_frozen BK292.out 0;have hfz139_1:=blk_frozen BK292.out 1;have hfz139_2:=blk_frozen BK292.out 2;have hfz139_3:=blk_frozen BK292.out 3;obtain ⟨_,_⟩:=zn0 NB293_291;obtain ⟨_,_⟩:=zn0 NB293_297;have hcz142_0:=zc00 BK293;have hfz142_0:=blk_frozen BK293.out 0))
        refine bodyPost_ret (results_ct rfl _ _ gb293 30 #[.slice none 0 0] (0,0) _ rfl (by refine zT0 ?_;refine blk_put (cs:=#[.slice none 0 0]) ?_ 0 _ rfl;exact zK0 BK293.out) Try.underlying30 rfl (by kernel_rfl)) rfl ?_
        exact ⟨_,zW0,by first | exact Kd.R_nil _ _ _ _ _ | exact Kd.N_nil _ _ _ _ _ | exact Kd.V_nil _ _ _ _ _ | exact Kd.Q_nil _ _ _ _ _ | exact Kd.S_nil _ _ _ _ _,(zY0 HB.out)⟩
       ·rw [if_neg c129] at H
        have c129b0 : decide (t296 < 0) = false:=decide_eq_false c129
        clear c129
        by_cases c143 : a1_0 = 2
        ·rw [if_pos c143] at H
         have c143b0 : (a1_0 == 2) = true:=beq_iff_eq.mpr c143
         have c143b1 : (a1_0 != 2) = false:=bne_eq_false_iff_eq.mpr c143
         clear c143
         replace H:=Option.bind_eq_some_iff.mp H
         obtain ⟨t304,A1440,H⟩:=H
         replace H : ((spec_DiskOk.f kj59 t304).bind fun t307 => (if t307 = true then (some (t304,true)) else (some (([] : List (S45)),false)))) = some (r1,r2):=H
         have A144:=Aside0.mk A1440
         clear A1440
         replace H:=Option.bind_eq_some_iff.mp H
         obtain ⟨t307,A1450,H⟩:=H
         replace H : (if t307 = true then (some (t304,true)) else (some (([] : List (S45)),false))) = some (r1,r2):=H
         have A145:=Aside0.mk A1450
         clear A1450
         by_cases c146 : t307 = true
         ·subst c146
          have H1 : (some (t304,true)) = some (r1,r2):=by rw [if_pos rfl] at H;exact H
          clear H
          have H:=H1
          clear H1
          simp only [Option.some.injEq,Prod.mk.injEq] at H
          obtain ⟨rfl,rfl⟩:=H
          go_wp2_with (first | ((with_reducible refine gate_dst (N:=8) rfl ?_);refine box_event ?hg (N:=8) ?hd (cs:=#[.slice none 0 0]) (t:=30) ?hr ?_;(case hd => rfl);(case hg => rfl);(case hr => first | (go_simp;done) | (go_simp;rfl));intro gb299 hg w147 hbox hb;have BK299:=Aside0.mk hbox;have GW299:=zz0 hg HB;have GE299:=zz0 hg HB;replace HB:=zs0 HB hb;have NB291_299:=zl0 hg BK291;have NB299_291:=zg0 hg BK291;replace BK291:=zb0 BK291 hb;have NB292_299:=zl0 hg BK292;have NB299_292:=zg0 hg BK292;replace BK292:=zb0 BK292 hb;have NB293_299:=zl0 hg BK293;have NB299_293:=zg0 hg BK293;replace BK293:=zb0 BK293 hb;have NB297_299:=zl0 hg BK297;have NB299_297:=zg0 hg BK297;replace BK297:=zb0 BK297 hb;clear hb hbox hg;obtain ⟨_,_⟩:=zn0 NB299_291;obtain ⟨_,_⟩:=zn0 NB299_292;obtain ⟨_,_⟩:=zn0 NB299_293;obtain ⟨_,_⟩:=zn0 NB299_297;have hcz152_0:=zc00 BK299;have hfz152_0:=blk_frozen BK299.out 0;obtain ⟨_,_⟩:=zn0 NB292_291;obtain ⟨_,_⟩:=zn0 NB292_293;obtain ⟨_,_⟩:=zn0 NB292_297;have hcz156_0:=zc00 BK292;have hcz156_1:=zc01 BK292;have hcz156_2:=zc02 BK292;have hcz156_3:=zc03 BK292;have hfz156_0:=blk_frozen BK292.out 0;have hfz156_1:=blk_frozen BK292.out 1;have hfz156_2:=blk_frozen BK292.out 2;have hfz156_3:=blk_frozen BK292.out 3;obtain ⟨_,_⟩:=zn0 NB297_291;obtain ⟨_,_⟩:=zn0 NB297_293;have hcz159_0:=zc00 BK297;have hcz159_1:=zc01 BK297;have hcz159_2:=zc02 BK297;have hfz159_0:=blk_frozen BK297.out 0;have hfz159_1:=blk_frozen BK297.out 1;have hfz159_2:=blk_frozen BK297.out 2;obtain ⟨_,_⟩:=zn0 NB291_293;have hcz161_0:=zc00 BK291;have hfz161_0:=blk_frozen BK291.out 0) | ((with_reducible refine gate_callee (f:=74) rfl ?_);refine goesL_ (some 82) rfl rfl Try.func74 (by kernel_rfl) rfl #[.agg #[.slice A0_0 l0_0.length c0_0],.agg #[.string x298000_59,.string x298001_59,.int .i64 (x298001_59.size : Int)]] rfl zM0 ?_;(with_reducible refine (spec_l03Put.calls kj59 _ _ l0_0 x298000_59 x298001_59 (x298001_59.size : Int) t304 _ ?side1 ?side2 A144.out).mono ?_);(case side1 => exact Kd.C_below HR0_0.out (zY0 HB.out));(case side2 => exact HC0_0.out);rintro e w162 ⟨v305,rfl,ho0,hb⟩;refine ⟨_,rfl,?_⟩;have HO306:=Aside0.mk (Kd.R_lower (Kd.R_newB ho0 (g:=gb297) (o:=.cells #[.string x298000_59,.string x298001_59,.int .i64 (x298001_59.size : Int)] 45 (0,0)) (by refine zT0 ?_;refine blk_put (cs:=#[.string x298000_59,.string x298001_59,.int .i64 x298002_59]) ?_ 2 _ rfl;exact zK0 BK297.out)) (zZ0 HB.out));replace BK291:=zb0 BK291 hb;replace BK292:=zb0 BK292 hb;replace BK293:=zb0 BK293 hb;replace BK297:=Aside0.mk (blk_below (g:=gb297) (o:=.cells #[.string x298000_59,.string x298001_59,.int .i64 (x298001_59.size : Int)] 45 (0,0)) (by refine zT0 ?_;refine blk_put (cs:=#[.string x298000_59,.string x298001_59,.int .i64 x298002_59]) ?_ 2 _ rfl;exact zK0 BK297.out) hb);replace BK299:=Aside0.mk (blk_below (g:=gb299) (o:=.cells #[.slice none 0 0] 30 (0,0)) (by refine zT0 ?_;refine blk_put (cs:=#[.slice none 0 0]) ?_ 0 _ rfl;exact zK0 BK299.out) hb);replace HB:=zs0 HB hb;(try clear hb);(try clear ho0);obtain ⟨Ao163,co163,eo163⟩:=Kd.R_slice HO306.out;subst eo163;have hcz164_0:=zc00 BK299;have hfz164_0:=blk_frozen BK299.out 0) | ((with_reducible refine gate_callee (f:=68) rfl ?_);refine goesL_ (some 125) rfl rfl Try.func68 (by kernel_rfl) rfl #[.agg #[.slice Ao163 t304.length co163]] rfl zM0 ?_;(with_reducible refine (spec_DiskOk.calls kj59 _ _ t304 true _ ?side1 ?side2 A145.out).mono ?_);(case side1 => refine (Kd.R_reads' (e:=45) (base:=w.heap.size) (ok:=fun k_ => (True ∧ k_ ≠ gb297)) (n:=t304.length) (c:=co163) ?_).2.2;exact (by refine zV0 ?_;exact (Kd.R_mono (Kd.R_far (p:=⟨gb299,0,none⟩) (Kd.R_types HO306.out BK299.out (by decide)) (fun _ hk => hk.2) (.slice Ao163 t304.length co163)) (fun _ h_ => h_.1))));(case side2 => exact (Kd.R_reads' HO306.out).2.1);rintro e w165 ⟨rfl,hb⟩;refine ⟨_,rfl,?_⟩;replace HO306:=Aside0.mk (Kd.R_below (by refine zV0 ?_;exact (Kd.R_mono (Kd.R_far (p:=⟨gb299,0,none⟩) (Kd.R_types HO306.out BK299.out (by decide)) (fun _ hk => hk.2) (.slice Ao163 t304.length co163)) (fun _ h_ => h_.1))) hb);replace BK291:=zb0 BK291 hb;replace BK292:=zb0 BK292 hb;replace BK293:=zb0 BK293 hb;replace BK297:=zb0 BK297 hb;replace BK299:=Aside0.mk (blk_below (g:=gb299) (o:=.cells #[.slice Ao163 t304.length co163] 30 (0,0)) (by refine zT0 ?_;refine blk_put (cs:=#[.slice none 0 0]) ?_ 0 _ rfl;exact zK0 BK299.out) hb);replace HB:=zs0 HB hb;(try clear hb);(try clear hk);have hcz166_0:=zc00 BK299;have hfz166_0:=blk_frozen BK299.out 0;have hcz167_0:=zc00 BK293;have hfz167_0:=blk_frozen BK293.out 0))
          refine bodyPost_ret (results_ct rfl _ _ gb293 30 #[.slice Ao163 t304.length co163] (0,0) _ rfl (by refine zT0 ?_;refine blk_put (cs:=#[.slice none 0 0]) ?_ 0 _ rfl;exact zK0 BK293.out) Try.underlying30 rfl (by kernel_rfl)) rfl ?_
          exact ⟨_,zW0,by refine zV0 ?_;exact Kd.R_mono (Kd.R_far (p:=⟨gb293,0,none⟩) (Kd.R_types HO306.out BK293.out (by decide)) (fun _ hk => hk.2) (.slice Ao163 t304.length co163)) (fun _ hk => trivial),(zY0 HB.out)⟩
         ·replace c146:=Bool.eq_false_iff.mpr c146
          subst c146
          have H1 : (some (([] : List (S45)),false)) = some (r1,r2):=by rw [if_neg (show ¬ (false = true) by decide)] at H;exact H
          clear H
          have H:=H1
          clear H1
          simp only [Option.some.injEq,Prod.mk.injEq] at H
          obtain ⟨rfl,rfl⟩:=H
          go_wp2_with (first | ((with_reducible refine gate_dst (N:=8) rfl ?_);refine box_event ?hg (N:=8) ?hd (cs:=#[.slice none 0 0]) (t:=30) ?hr ?_;(case hd => rfl);(case hg => rfl);(case hr => first | (go_simp;done) | (go_simp;rfl));intro gb299 hg w168 hbox hb;have BK299:=Aside0.mk hbox;have GW299:=zz0 hg HB;have GE299:=zz0 hg HB;replace HB:=zs0 HB hb;have NB291_299:=zl0 hg BK291;have NB299_291:=zg0 hg BK291;replace BK291:=zb0 BK291 hb;have NB292_299:=zl0 hg BK292;have NB299_292:=zg0 hg BK292;replace BK292:=zb0 BK292 hb;have NB293_299:=zl0 hg BK293;have NB299_293:=zg0 hg BK293;replace BK293:=zb0 BK293 hb;have NB297_299:=zl0 hg BK297;have NB299_297:=zg0 hg BK297;replace BK297:=zb0 BK297 hb;clear hb hbox hg;obtain ⟨_,_⟩:=zn0 NB299_291;obtain ⟨_,_⟩:=zn0 NB299_292;obtain ⟨_,_⟩:=zn0 NB299_293;obtain ⟨_,_⟩:=zn0 NB299_297;have hcz173_0:=zc00 BK299;have hfz173_0:=blk_frozen BK299.out 0;obtain ⟨_,_⟩:=zn0 NB292_291;obtain ⟨_,_⟩:=zn0 NB292_293;obtain ⟨_,_⟩:=zn0 NB292_297;have hcz177_0:=zc00 BK292;have hcz177_1:=zc01 BK292;have hcz177_2:=zc02 BK292;have hcz177_3:=zc03 BK292;have hfz177_0:=blk_frozen BK292.out 0;have hfz177_1:=blk_frozen BK292.out 1;have hfz177_2:=blk_frozen BK292.out 2;have hfz177_3:=blk_frozen BK292.out 3;obtain ⟨_,_⟩:=zn0 NB297_291;obtain ⟨_,_⟩:=zn0 NB297_293;have hcz180_0:=zc00 BK297;have hcz180_1:=zc01 BK297;have hcz180_2:=zc02 BK297;have hfz180_0:=blk_frozen BK297.out 0;have hfz180_1:=blk_frozen BK297.out 1;have hfz180_2:=blk_frozen BK297.out 2;obtain ⟨_,_⟩:=zn0 NB291_293;have hcz182_0:=zc00 BK291;have hfz182_0:=blk_frozen BK291.out 0) | ((with_reducible refine gate_callee (f:=74) rfl ?_);refine goesL_ (some 82) rfl rfl Try.func74 (by kernel_rfl) rfl #[.agg #[.slice A0_0 l0_0.length c0_0],.agg #[.string x298000_59,.string x298001_59,.int .i64 (x298001_59.size : Int)]] rfl zM0 ?_;(with_reducible refine (spec_l03Put.calls kj59 _ _ l0_0 x298000_59 x298001_59 (x298001_59.size : Int) t304 _ ?side1 ?side2 A144.out).mono ?_);(case side1 => exact Kd.C_below HR0_0.out (zY0 HB.out));(case side2 => exact HC0_0.out);rintro e w183 ⟨v305,rfl,ho0,hb⟩;refine ⟨_,rfl,?_⟩;have HO306:=Aside0.mk (Kd.R_lower (Kd.R_newB ho0 (g:=gb297) (o:=.cells #[.string x298000_59,.string x298001_59,.int .i64 (x298001_59.size : Int)] 45 (0,0)) (by refine zT0 ?_;refine blk_put (cs:=#[.string x298000_59,.string x298001_59,.int .i64 x298002_59]) ?_ 2 _ rfl;exact zK0 BK297.out)) (zZ0 HB.out));replace BK291:=zb0 BK291 hb;replace BK292:=zb0 BK292 hb;replace BK293:=zb0 BK293 hb;replace BK297:=Aside0.mk (blk_below (g:=gb297) (o:=.cells #[.string x298000_59,.string x298001_59,.int .i64 (x298001_59.size : Int)] 45 (0,0)) (by refine zT0 ?_;refine blk_put (cs:=#[.string x298000_59,.string x298001_59,.int .i64 x298002_59]) ?_ 2 _ rfl;exact zK0 BK297.out) hb);replace BK299:=Aside0.mk (blk_below (g:=gb299) (o:=.cells #[.slice none 0 0] 30 (0,0)) (by refine zT0 ?_;refine blk_put (cs:=#[.slice none 0 0]) ?_ 0 _ rfl;exact zK0 BK299.out) hb);replace HB:=zs0 HB hb;(try clear hb);(try clear ho0);obtain ⟨Ao184,co184,eo184⟩:=Kd.R_slice HO306.out;subst eo184;have hcz185_0:=zc00 BK299;have hfz185_0:=blk_frozen BK299.out 0) | ((with_reducible refine gate_callee (f:=68) rfl ?_);refine goesL_ (some 125) rfl rfl Try.func68 (by kernel_rfl) rfl #[.agg #[.slice Ao184 t304.length co184]] rfl zM0 ?_;(with_reducible refine (spec_DiskOk.calls kj59 _ _ t304 false _ ?side1 ?side2 A145.out).mono ?_);(case side1 => refine (Kd.R_reads' (e:=45) (base:=w.heap.size) (ok:=fun k_ => (True ∧ k_ ≠ gb297)) (n:=t304.length) (c:=co184) ?_).2.2;exact (by refine zV0 ?_;exact (Kd.R_mono (Kd.R_far (p:=⟨gb299,0,none⟩) (Kd.R_types HO306.out BK299.out (by decide)) (fun _ hk => hk.2) (.slice Ao184 t304.length co184)) (fun _ h_ => h_.1))));(case side2 => exact (Kd.R_reads' HO306.out).2.1);rintro e w186 ⟨rfl,hb⟩;refine ⟨_,rfl,?_⟩;replace HO306:=Aside0.mk (Kd.R_below (by refine zV0 ?_;exact (Kd.R_mono (Kd.R_far (p:=⟨gb299,0,none⟩) (Kd.R_types HO306.out BK299.out (by decide)) (fun _ hk => hk.2) (.slice Ao184 t304.length co184)) (fun _ h_ => h_.1))) hb);replace BK291:=zb0 BK291 hb;replace BK292:=zb0 BK292 hb;replace BK293:=zb0 BK293 hb;replace BK297:=zb0 BK297 hb;replace BK299:=Aside0.mk (blk_below (g:=gb299) (o:=.cells #[.slice Ao184 t304.length co184] 30 (0,0)) (by refine zT0 ?_;refine blk_put (cs:=#[.slice none 0 0]) ?_ 0 _ rfl;exact zK0 BK299.out) hb);replace HB:=zs0 HB hb;(try clear hb);(try clear hk);have hcz187_0:=zc00 BK293;have hfz187_0:=blk_frozen BK293.out 0))
          refine bodyPost_ret (results_ct rfl _ _ gb293 30 #[.slice none 0 0] (0,0) _ rfl (by refine zT0 ?_;refine blk_put (cs:=#[.slice none 0 0]) ?_ 0 _ rfl;exact zK0 BK293.out) Try.underlying30 rfl (by kernel_rfl)) rfl ?_
          exact ⟨_,zW0,by first | exact Kd.R_nil _ _ _ _ _ | exact Kd.N_nil _ _ _ _ _ | exact Kd.V_nil _ _ _ _ _ | exact Kd.Q_nil _ _ _ _ _ | exact Kd.S_nil _ _ _ _ _,(zY0 HB.out)⟩
        ·rw [if_neg c143] at H
         have c143b0 : (a1_0 == 2) = false:=beq_eq_false_iff_ne.mpr c143
         have c143b1 : (a1_0 != 2) = true:=bne_iff_ne.mpr c143
         by_cases c188 : a1_0 = 3
         ·rw [if_pos c188] at H
          have c188b0 : (a1_0 == 3) = true:=beq_iff_eq.mpr c188
          have c188b1 : (a1_0 != 3) = false:=bne_eq_false_iff_eq.mpr c188
          clear c188
          have HC189:=Aside0.mk H
          clear H
          go_upto_region 18 with (first | ((with_reducible refine gate_dst (N:=8) rfl ?_);refine box_event ?hg (N:=8) ?hd (cs:=#[.slice none 0 0]) (t:=30) ?hr ?_;(case hd => rfl);(case hg => rfl);(case hr => first | (go_simp;done) | (go_simp;rfl));intro gb299 hg w190 hbox hb;have BK299:=Aside0.mk hbox;have GW299:=zz0 hg HB;have GE299:=zz0 hg HB;replace HB:=zs0 HB hb;have NB291_299:=zl0 hg BK291;have NB299_291:=zg0 hg BK291;replace BK291:=zb0 BK291 hb;have NB292_299:=zl0 hg BK292;have NB299_292:=zg0 hg BK292;replace BK292:=zb0 BK292 hb;have NB293_299:=zl0 hg BK293;have NB299_293:=zg0 hg BK293;replace BK293:=zb0 BK293 hb;have NB297_299:=zl0 hg BK297;have NB299_297:=zg0 hg BK297;replace BK297:=zb0 BK297 hb;clear hb hbox hg;obtain ⟨_,_⟩:=zn0 NB299_291;obtain ⟨_,_⟩:=zn0 NB299_292;obtain ⟨_,_⟩:=zn0 NB299_293;obtain ⟨_,_⟩:=zn0 NB299_297;have hcz195_0:=zc00 BK299;have hfz195_0:=blk_frozen BK299.out 0;obtain ⟨_,_⟩:=zn0 NB292_291;obtain ⟨_,_⟩:=zn0 NB292_293;obtain ⟨_,_⟩:=zn0 NB292_297;have hcz199_0:=zc00 BK292;have hcz199_1:=zc01 BK292;have hcz199_2:=zc02 BK292;have hcz199_3:=zc03 BK292;have hfz199_0:=blk_frozen BK292.out 0;have hfz199_1:=blk_frozen BK292.out 1;have hfz199_2:=blk_frozen BK292.out 2;have hfz199_3:=blk_frozen BK292.out 3))
          (try simp only [Act.put,qA0,qB0,qC0])
          go_cut [105] (fun v105 wc => ∃ (kq : Nat) (x105_188 : Bool),v105 = .bool x105_188 ∧ Aside0 (spec_DoAct.j2 kq x105_188 l0_0 a1_0 a1_1 a1_2 a1_3 x298000_59 x298001_59 x298002_59 = some (r1,r2)) ∧ Aside0 (kq ≤ kj59) ∧ Aside0 (wc.heap[gb291]? = some (.cells #[(.slice A0_0 l0_0.length c0_0)] 30 (0,0))) ∧ Aside0 (wc.heap[gb292]? = some (.cells #[.int .i64 a1_0,.string a1_1,.string a1_2,.string a1_3] 55 (0,0))) ∧ Aside0 (wc.heap[gb293]? = some (.cells #[(.slice none 0 0)] 30 (0,0))) ∧ Aside0 (wc.heap[gb297]? = some (.cells #[.string x298000_59,.string x298001_59,.int .i64 x298002_59] 45 (0,0))) ∧ Aside0 (wc.heap[gb299]? = some (.cells #[(.slice none 0 0)] 30 (0,0))) ∧ Aside0 (Below w.heap.size w wc))
          case first =>
           have H:=HC189.out
           clear HC189
           by_cases c200 : x298002_59 < (x298001_59.size : Int)
           ·rw [if_pos c200] at H
            have c200b0 : decide (x298002_59 < (x298001_59.size : Int)) = true:=decide_eq_true c200
            clear c200
            (first | rw [c200b0] | (simp only [i64_w,i32_w];rw [c200b0]) | skip)
            have H':=Aside0.mk H
            clear H
            obtain ⟨_,_⟩:=zn0 NB297_291
            obtain ⟨_,_⟩:=zn0 NB297_292
            obtain ⟨_,_⟩:=zn0 NB297_293
            obtain ⟨_,_⟩:=zn0 NB297_299
            have hcz205_0:=zc00 BK297
            have hcz205_1:=zc01 BK297
            have hcz205_2:=zc02 BK297
            have hfz205_0:=blk_frozen BK297.out 0
            have hfz205_1:=blk_frozen BK297.out 1
            have hfz205_2:=blk_frozen BK297.out 2
            go_wp2
            go_meet
            case rel => exact ⟨_,(true),zE0,H',⟨by have:=HJ2.out;have:=HJ59.out;first | omega | exact Nat.le_refl _⟩,⟨zK0 BK291.out⟩,⟨zK0 BK292.out⟩,⟨zK0 BK293.out⟩,⟨zK0 BK297.out⟩,⟨by refine zT0 ?_;refine blk_put (cs:=#[.slice none 0 0]) ?_ 0 _ rfl;exact zK0 BK299.out⟩,⟨zY0 HB.out⟩⟩
           ·rw [if_neg c200] at H
            have c200b0 : decide (x298002_59 < (x298001_59.size : Int)) = false:=decide_eq_false c200
            clear c200
            (first | rw [c200b0] | (simp only [i64_w,i32_w];rw [c200b0]) | skip)
            by_cases c206 : a1_3.toList = a1_1.toList
            ·rw [if_pos c206] at H
             have c206b0 : (a1_3.toList == a1_1.toList) = true:=beq_iff_eq.mpr c206
             have c206b1 : (a1_3.toList != a1_1.toList) = false:=bne_eq_false_iff_eq.mpr c206
             clear c206
             have H':=Aside0.mk H
             clear H
             obtain ⟨_,_⟩:=zn0 NB297_291
             obtain ⟨_,_⟩:=zn0 NB297_292
             obtain ⟨_,_⟩:=zn0 NB297_293
             obtain ⟨_,_⟩:=zn0 NB297_299
             have hcz211_0:=zc00 BK297
             have hcz211_1:=zc01 BK297
             have hcz211_2:=zc02 BK297
             have hfz211_0:=blk_frozen BK297.out 0
             have hfz211_1:=blk_frozen BK297.out 1
             have hfz211_2:=blk_frozen BK297.out 2
             obtain ⟨_,_⟩:=zn0 NB292_291
             obtain ⟨_,_⟩:=zn0 NB292_293
             obtain ⟨_,_⟩:=zn0 NB292_299
             have hcz215_0:=zc00 BK292
             have hcz215_1:=zc01 BK292
             have hcz215_2:=zc02 BK292
             have hcz215_3:=zc03 BK292
             have hfz215_0:=blk_frozen BK292.out 0
             have hfz215_1:=blk_frozen BK292.out 1
             have hfz215_2:=blk_frozen BK292.out 2
             have hfz215_3:=blk_frozen BK292.out 3
             go_wp2
             go_meet
             case rel => exact ⟨_,(true),zE0,H',⟨by have:=HJ2.out;have:=HJ59.out;first | omega | exact Nat.le_refl _⟩,⟨zK0 BK291.out⟩,⟨zK0 BK292.out⟩,⟨zK0 BK293.out⟩,⟨zK0 BK297.out⟩,⟨by refine zT0 ?_;refine blk_put (cs:=#[.slice none 0 0]) ?_ 0 _ rfl;exact zK0 BK299.out⟩,⟨zY0 HB.out⟩⟩
            ·rw [if_neg c206] at H
             have c206b0 : (a1_3.toList == a1_1.toList) = false:=beq_eq_false_iff_ne.mpr c206
             have c206b1 : (a1_3.toList != a1_1.toList) = true:=bne_iff_ne.mpr c206
             replace H:=Option.bind_eq_some_iff.mp H
             obtain ⟨t308,A2160,H⟩:=H
             replace H : (spec_DoAct.j2 kj59 (!t308) l0_0 a1_0 a1_1 a1_2 a1_3 x298000_59 x298001_59 x298002_59) = some (r1,r2):=H
             have A216:=Aside0.mk A2160
             clear A2160
             have H':=Aside0.mk H
             clear H
             obtain ⟨_,_⟩:=zn0 NB297_291
             obtain ⟨_,_⟩:=zn0 NB297_292
             obtain ⟨_,_⟩:=zn0 NB297_293
             obtain ⟨_,_⟩:=zn0 NB297_299
             have hcz221_0:=zc00 BK297
             have hcz221_1:=zc01 BK297
             have hcz221_2:=zc02 BK297
             have hfz221_0:=blk_frozen BK297.out 0
             have hfz221_1:=blk_frozen BK297.out 1
             have hfz221_2:=blk_frozen BK297.out 2
             obtain ⟨_,_⟩:=zn0 NB292_291
             obtain ⟨_,_⟩:=zn0 NB292_293
             obtain ⟨_,_⟩:=zn0 NB292_299
             have hcz225_0:=zc00 BK292
             have hcz225_1:=zc01 BK292
             have hcz225_2:=zc02 BK292
             have hcz225_3:=zc03 BK292
             have hfz225_0:=blk_frozen BK292.out 0
             have hfz225_1:=blk_frozen BK292.out 1
             have hfz225_2:=blk_frozen BK292.out 2
             have hfz225_3:=blk_frozen BK292.out 3
             go_wp2_with (first | (go_at_call 81;(with_reducible refine (spec_l03Name.calls a1_3 t308 _ A216.out).mono ?_);rintro e w' ⟨rfl,⟨nd,rfl⟩⟩))
             go_meet
             case rel => exact ⟨_,(!t308),zE0,H',⟨by have:=HJ2.out;have:=HJ59.out;first | omega | exact Nat.le_refl _⟩,⟨zK0 BK291.out⟩,⟨zK0 BK292.out⟩,⟨zK0 BK293.out⟩,⟨zK0 BK297.out⟩,⟨by refine zT0 ?_;refine blk_put (cs:=#[.slice none 0 0]) ?_ 0 _ rfl;exact zK0 BK299.out⟩,⟨zY0 HB.out⟩⟩
          case rest =>
           clear HC189
           try clear c55
           try clear c83
           try clear c83b0
           try clear c83b1
           try clear c129
           try clear c129b0
           try clear c143
           try clear c143b0
           try clear c143b1
           try clear c188
           try clear c188b0
           try clear c188b1
           try clear hcz195_0
           try clear hcz199_0
           try clear hcz199_1
           try clear hcz199_2
           try clear hcz199_3
           try clear hcz63_0
           try clear hcz65_0
           try clear hcz65_1
           try clear hcz65_2
           try clear hcz65_3
           try clear hcz67_0
           try clear hcz67_1
           try clear hcz67_2
           try clear hcz67_3
           try clear hcz72_0
           try clear hcz72_1
           try clear hcz72_2
           try clear hfz195_0
           try clear hfz199_0
           try clear hfz199_1
           try clear hfz199_2
           try clear hfz199_3
           try clear hfz63_0
           try clear hfz65_0
           try clear hfz65_1
           try clear hfz65_2
           try clear hfz65_3
           try clear hfz67_0
           try clear hfz67_1
           try clear hfz67_2
           try clear hfz67_3
           try clear hfz72_0
           try clear hfz72_1
           try clear hfz72_2
           obtain ⟨kq,x105_188,rfl,HA,HJ188,BK291,BK292,BK293,BK297,BK299,HB⟩:=hcut
           cases kq with
           | zero => exact absurd HA.out (by simp [spec_DoAct.j2])
           | succ kj188 =>
            have H:=HA.out
            clear HA
            simp only [spec_DoAct.j2] at H
            by_cases c226 : x105_188 = true
            ·subst c226
             have H1 : (some (([] : List (S45)),false)) = some (r1,r2):=by rw [if_pos rfl] at H;exact H
             clear H
             have H:=H1
             clear H1
             simp only [Option.some.injEq,Prod.mk.injEq] at H
             obtain ⟨rfl,rfl⟩:=H
             obtain ⟨_,_⟩:=zn0 NB293_291
             obtain ⟨_,_⟩:=zn0 NB293_292
             obtain ⟨_,_⟩:=zn0 NB293_297
             obtain ⟨_,_⟩:=zn0 NB293_299
             have hcz231_0 : wc.cell? ⟨gb293,0,none⟩ = some (.slice none 0 0):=(blk_cell BK293.out 0).trans rfl
             have hfz231_0:=blk_frozen BK293.out 0
             go_wp2
             refine bodyPost_ret (results_ct rfl _ _ gb293 30 #[.slice none 0 0] (0,0) _ rfl (by refine zT0 ?_;refine blk_put (cs:=#[.slice none 0 0]) ?_ 0 _ rfl;exact zK0 BK293.out) Try.underlying30 rfl (by kernel_rfl)) rfl ?_
             exact ⟨_,zW0,by first | exact Kd.R_nil _ _ _ _ _ | exact Kd.N_nil _ _ _ _ _ | exact Kd.V_nil _ _ _ _ _ | exact Kd.Q_nil _ _ _ _ _ | exact Kd.S_nil _ _ _ _ _,(zY0 HB.out)⟩
            ·replace c226:=Bool.eq_false_iff.mpr c226
             subst c226
             have H1 : ((spec_l03Without.f kj188 l0_0 a1_1).bind fun t309 => ((spec_l03Put.f kj188 t309 a1_3 x298001_59 x298002_59).bind fun t312 => ((spec_DiskOk.f kj188 t312).bind fun t315 => (if t315 = true then (some (t312,true)) else (some (([] : List (S45)),false)))))) = some (r1,r2):=by rw [if_neg (show ¬ (false = true) by decide)] at H;exact H
             clear H
             have H:=H1
             clear H1
             replace H:=Option.bind_eq_some_iff.mp H
             obtain ⟨t309,A2320,H⟩:=H
             replace H : ((spec_l03Put.f kj188 t309 a1_3 x298001_59 x298002_59).bind fun t312 => ((spec_DiskOk.f kj188 t312).bind fun t315 => (if t315 = true then (some (t312,true)) else (some (([] : List (S45)),false))))) = some (r1,r2):=H
             have A232:=Aside0.mk A2320
             clear A2320
             replace H:=Option.bind_eq_some_iff.mp H
             obtain ⟨t312,A2330,H⟩:=H
             replace H : ((spec_DiskOk.f kj188 t312).bind fun t315 => (if t315 = true then (some (t312,true)) else (some (([] : List (S45)),false)))) = some (r1,r2):=H
             have A233:=Aside0.mk A2330
             clear A2330
             replace H:=Option.bind_eq_some_iff.mp H
             obtain ⟨t315,A2340,H⟩:=H
             replace H : (if t315 = true then (some (t312,true)) else (some (([] : List (S45)),false))) = some (r1,r2):=H
             have A234:=Aside0.mk A2340
             clear A2340
             by_cases c235 : t315 = true
             ·subst c235
              have H1 : (some (t312,true)) = some (r1,r2):=by rw [if_pos rfl] at H;exact H
              clear H
              have H:=H1
              clear H1
              simp only [Option.some.injEq,Prod.mk.injEq] at H
              obtain ⟨rfl,rfl⟩:=H
              obtain ⟨_,_⟩:=zn0 NB292_291
              obtain ⟨_,_⟩:=zn0 NB292_293
              obtain ⟨_,_⟩:=zn0 NB292_297
              obtain ⟨_,_⟩:=zn0 NB292_299
              have hcz240_0 : wc.cell? ⟨gb292,0,none⟩ = some (.int .i64 a1_0):=(blk_cell BK292.out 0).trans rfl
              have hcz240_1 : wc.cell? ⟨gb292,1,none⟩ = some (.string a1_1):=(blk_cell BK292.out 1).trans rfl
              have hcz240_2 : wc.cell? ⟨gb292,2,none⟩ = some (.string a1_2):=(blk_cell BK292.out 2).trans rfl
              have hcz240_3 : wc.cell? ⟨gb292,3,none⟩ = some (.string a1_3):=(blk_cell BK292.out 3).trans rfl
              have hfz240_0:=blk_frozen BK292.out 0
              have hfz240_1:=blk_frozen BK292.out 1
              have hfz240_2:=blk_frozen BK292.out 2
              have hfz240_3:=blk_frozen BK292.out 3
              obtain ⟨_,_⟩:=zn0 NB297_291
              obtain ⟨_,_⟩:=zn0 NB297_293
              obtain ⟨_,_⟩:=zn0 NB297_299
              have hcz244_0 : wc.cell? ⟨gb297,0,none⟩ = some (.string x298000_59):=(blk_cell BK297.out 0).trans rfl
              have hcz244_1 : wc.cell? ⟨gb297,1,none⟩ = some (.string x298001_59):=(blk_cell BK297.out 1).trans rfl
              have hcz244_2 : wc.cell? ⟨gb297,2,none⟩ = some (.int .i64 x298002_59):=(blk_cell BK297.out 2).trans rfl
              have hfz244_0:=blk_frozen BK297.out 0
              have hfz244_1:=blk_frozen BK297.out 1
              have hfz244_2:=blk_frozen BK297.out 2
              try go_wp2
              have n0_ : Aside0 ((wc.setCell ⟨gb297,0,none⟩ (.string a1_3)).heap[gb291]? = some (.cells #[.slice A0_0 l0_0.length c0_0] 30 (0,0))):=⟨zK0 BK291.out⟩
              have n1_ : Aside0 ((wc.setCell ⟨gb297,0,none⟩ (.string a1_3)).heap[gb292]? = some (.cells #[.int .i64 a1_0,.string a1_1,.string a1_2,.string a1_3] 55 (0,0))):=⟨zK0 BK292.out⟩
              have n2_ : Aside0 ((wc.setCell ⟨gb297,0,none⟩ (.string a1_3)).heap[gb293]? = some (.cells #[.slice none 0 0] 30 (0,0))):=⟨zK0 BK293.out⟩
              have n3_ : Aside0 ((wc.setCell ⟨gb297,0,none⟩ (.string a1_3)).heap[gb297]? = some (.cells #[.string a1_3,.string x298001_59,.int .i64 x298002_59] 45 (0,0))):=⟨by refine zT0 ?_;refine blk_put (cs:=#[.string x298000_59,.string x298001_59,.int .i64 x298002_59]) ?_ 0 _ rfl;exact zK0 BK297.out⟩
              have n4_ : Aside0 ((wc.setCell ⟨gb297,0,none⟩ (.string a1_3)).heap[gb299]? = some (.cells #[.slice none 0 0] 30 (0,0))):=⟨zK0 BK299.out⟩
              have n5_ : Aside0 (Below w.heap.size w (wc.setCell ⟨gb297,0,none⟩ (.string a1_3))):=⟨zY0 HB.out⟩
              (try clear BK291)
              (try clear BK292)
              (try clear BK293)
              (try clear BK297)
              (try clear BK299)
              (try clear HB)
              generalize (wc.setCell ⟨gb297,0,none⟩ (.string a1_3)) = w245 at n0_ n1_ n2_ n3_ n4_ n5_ ⊢
              have BK291:=n0_
              have BK292:=n1_
              have BK293:=n2_
              have BK297:=n3_
              have BK299:=n4_
              have HB:=n5_
              clear n0_ n1_ n2_ n3_ n4_ n5_
              replace BK291:=Aside0.mk (blk_drew BK291.out)
              replace BK292:=Aside0.mk (blk_drew BK292.out)
              replace BK293:=Aside0.mk (blk_drew BK293.out)
              replace BK297:=Aside0.mk (blk_drew BK297.out)
              replace BK299:=Aside0.mk (blk_drew BK299.out)
              replace HB:=Aside0.mk (below_drew1 HB.out)
              refine start_ (n:=7) (S:=fun w' => w'.cell? ⟨gb291,0,none⟩ = some (.slice A0_0 l0_0.length c0_0) ∧ w'.cell? ⟨gb292,0,none⟩ = some (.int .i64 a1_0) ∧ w'.cell? ⟨gb292,1,none⟩ = some (.string a1_1) ∧ w'.cell? ⟨gb292,2,none⟩ = some (.string a1_2) ∧ w'.cell? ⟨gb292,3,none⟩ = some (.string a1_3) ∧ w'.cell? ⟨gb297,0,none⟩ = some (.string a1_3) ∧ w'.cell? ⟨gb297,1,none⟩ = some (.string x298001_59) ∧ w'.cell? ⟨gb297,2,none⟩ = some (.int .i64 x298002_59)) (ds:=[]) (zF0 7 0) (by kernel_rfl) rfl rfl ⟨(blk_cell BK291.out 0).trans rfl,(blk_cell BK292.out 0).trans rfl,(blk_cell BK292.out 1).trans rfl,(blk_cell BK292.out 2).trans rfl,(blk_cell BK292.out 3).trans rfl,(blk_cell BK297.out 0).trans rfl,(blk_cell BK297.out 1).trans rfl,(blk_cell BK297.out 2).trans rfl⟩ (fun hHeld => ?_)
              generalize w245.drew = w246 at BK291 BK292 BK293 BK297 BK299 HB hHeld ⊢
              refine pure_ (i:=1) (N:=some 111) (v:=?_) (a':=?_) (zF0 7 2) rfl rfl (by kernel_rfl) (fun _ _ _ h => h) (Or.inl ⟨by rfl,?_⟩) ?_ ?_;rotate_left
              ·intro w';go_simp;with_reducible rfl
              rotate_left
              ·simp only [Act.put,qA0,qB0,qC0,i64_w,i32_w];rfl
              refine take_ (i:=0) (N:=some 110) (v:=?_) (a':=?_) (zF0 7 3) rfl rfl (by kernel_rfl) (fun _ _ _ h => h) (Or.inl ⟨by rfl,?_⟩) hHeld ?_ ?_;rotate_left
              ·rintro w' ⟨s0,s1,s2,s3,s4,s5,s6,s7⟩
               go_simp
               with_reducible rfl
              rotate_left
              ·simp only [Act.put,qA0,qB0,qC0,i64_w,i32_w];rfl
              refine take_ (i:=2) (N:=some 112) (v:=?_) (a':=?_) (zF0 7 7) rfl rfl (by kernel_rfl) (fun _ _ _ h => h) (Or.inl ⟨by rfl,?_⟩) hHeld ?_ ?_;rotate_left
              ·rintro w' ⟨s0,s1,s2,s3,s4,s5,s6,s7⟩
               go_simp
               with_reducible rfl
              rotate_left
              ·simp only [Act.put,qA0,qB0,qC0,i64_w,i32_w];rfl
              refine take_ (i:=4) (N:=some 114) (v:=?_) (a':=?_) (zF0 7 23) rfl rfl (by kernel_rfl) (fun _ _ _ h => h) (Or.inl ⟨by rfl,?_⟩) hHeld ?_ ?_;rotate_left
              ·rintro w' ⟨s0,s1,s2,s3,s4,s5,s6,s7⟩
               go_simp
               with_reducible rfl
              rotate_left
              ·simp only [Act.put,qA0,qB0,qC0,i64_w,i32_w];rfl
              refine one_ (i:=3) (N:=some 113) (zF0 7 31) rfl rfl (by kernel_rfl) (by decide) (fun K hK => ?_)
              refine goes_ Try.func82 (by kernel_rfl) rfl #[.agg #[.slice A0_0 l0_0.length c0_0],.string a1_1] (by rfl) rfl rfl zM0 ?_
              with_reducible refine (spec_l03Without.calls kj188 _ _ l0_0 a1_1 t309 _ ?side1 ?side2 A232.out).mono ?_
              (case side1 => exact zA0 (Kd.C_below HR0_0.out HB.out))
              (case side2 => exact HC0_0.out)
              rintro e w247 ⟨v310,rfl,ho0,hb⟩
              refine ⟨_,rfl,?_⟩
              have HO311:=Aside0.mk (Kd.R_lower (Kd.R_newB ho0 (g:=gb297) (o:=.cells #[.string a1_3,.string x298001_59,.int .i64 x298002_59] 45 (0,0)) (zK0 BK297.out)) (zZ0 HB.out))
              replace BK291:=zb0 BK291 hb
              replace BK292:=zb0 BK292 hb
              replace BK293:=zb0 BK293 hb
              replace BK297:=zb0 BK297 hb
              replace BK299:=zb0 BK299 hb
              replace HB:=zs0 HB hb
              (try clear hb)
              (try clear hb2)
              (try clear hk)
              (try clear hi)
              (try clear ho0)
              obtain ⟨Ao248,co248,eo248⟩:=Kd.R_slice HO311.out
              (first | subst eo248 | (injection eo248 with f1_ f2_ f3_;have f4_:=f1_.symm;have f5_:=f3_.symm;clear f1_ f2_ f3_;subst f4_;subst f5_))
              refine hK.out _ _ ⟨(blk_cell BK291.out 0).trans rfl,(blk_cell BK292.out 0).trans rfl,(blk_cell BK292.out 1).trans rfl,(blk_cell BK292.out 2).trans rfl,(blk_cell BK292.out 3).trans rfl,(blk_cell BK297.out 0).trans rfl,(blk_cell BK297.out 1).trans rfl,(blk_cell BK297.out 2).trans rfl⟩ (fun hHeld => ?_)
              clear hK K
              refine norm_ (a':=?_) ?_ ?_;rotate_left
              ·show Act.put _ (some 113) _ = _;simp only [Act.put,qA0,qB0,qC0,i64_w,i32_w];rfl
              refine one_ (i:=5) (N:=some 115) (zF0 7 63) rfl rfl (by kernel_rfl) (by decide) (fun K hK => ?_)
              refine goes_ Try.func74 (by kernel_rfl) rfl #[.agg #[.slice Ao248 t309.length co248],.agg #[.string a1_3,.string x298001_59,.int .i64 x298002_59]] (by rfl) rfl rfl zM0 ?_
              with_reducible refine (spec_l03Put.calls kj188 _ _ t309 a1_3 x298001_59 x298002_59 t312 _ ?side1 ?side2 A233.out).mono ?_
              (case side1 => repeat (first | exact (Kd.R_reads' HO311.out).2.2 | (with_reducible refine Kd.C_alloc ?_ _) | (with_reducible refine Kd.C_drewN ?_ _) | (with_reducible refine Kd.C_drew ?_)))
              (case side2 => exact (Kd.R_reads' HO311.out).2.1)
              rintro e w249 ⟨v313,rfl,ho0,hb⟩
              refine ⟨_,rfl,?_⟩
              have HO314:=Aside0.mk (Kd.R_lower (Kd.R_newB (Kd.R_new' ho0 (Kd.R_lt (zR0 HO311.out))) (g:=gb297) (o:=.cells #[.string a1_3,.string x298001_59,.int .i64 x298002_59] 45 (0,0)) (zK0 BK297.out)) (zZ0 HB.out))
              replace HO311:=Aside0.mk (Kd.R_elder' (zR0 HO311.out) (Kd.R_base ho0) hb)
              replace BK291:=zb0 BK291 hb
              replace BK292:=zb0 BK292 hb
              replace BK293:=zb0 BK293 hb
              replace BK297:=zb0 BK297 hb
              replace BK299:=zb0 BK299 hb
              replace HB:=zs0 HB hb
              (try clear hb)
              (try clear hb2)
              (try clear hk)
              (try clear hi)
              (try clear ho0)
              obtain ⟨Ao250,co250,eo250⟩:=Kd.R_slice HO314.out
              (first | subst eo250 | (injection eo250 with f1_ f2_ f3_;have f4_:=f1_.symm;have f5_:=f3_.symm;clear f1_ f2_ f3_;subst f4_;subst f5_))
              refine hK.out _ _ ⟨(blk_cell BK291.out 0).trans rfl,(blk_cell BK292.out 0).trans rfl,(blk_cell BK292.out 1).trans rfl,(blk_cell BK292.out 2).trans rfl,(blk_cell BK292.out 3).trans rfl,(blk_cell BK297.out 0).trans rfl,(blk_cell BK297.out 1).trans rfl,(blk_cell BK297.out 2).trans rfl⟩ (fun hHeld => ?_)
              clear hK K
              refine norm_ (a':=?_) ?_ ?_;rotate_left
              ·show Act.put _ (some 115) _ = _;simp only [Act.put,qA0,qB0,qC0,i64_w,i32_w];rfl
              refine one_ (i:=6) (N:=none) (zF0 7 127) rfl rfl (by kernel_rfl) (by decide) (fun K hK => ?_)
              have hs251 : w249.cell? ⟨gb299,0,none⟩ = some (.slice none 0 0):=(blk_cell BK299.out 0).trans rfl
              have hfs251:=blk_frozen BK299.out 0
              have hns251_0:=NB291_299.out
              have hns251_1:=NB292_299.out
              have hns251_2:=NB293_299.out
              have hns251_3:=NB297_299.out
              have hms251_0:=NB299_291.out
              have hms251_1:=NB299_292.out
              have hms251_2:=NB299_293.out
              have hms251_3:=NB299_297.out
              refine skip_ (w1:=?_) (by rfl) rfl ?_ ?_;rotate_left
              ·go_simp
               rfl
              refine hK.out _ _ ⟨((cell_far (p:=⟨gb299,_,none⟩) NB291_299.out _).trans (hHeld.1)),((cell_far (p:=⟨gb299,_,none⟩) NB292_299.out _).trans (hHeld.2.1)),((cell_far (p:=⟨gb299,_,none⟩) NB292_299.out _).trans (hHeld.2.2.1)),((cell_far (p:=⟨gb299,_,none⟩) NB292_299.out _).trans (hHeld.2.2.2.1)),((cell_far (p:=⟨gb299,_,none⟩) NB292_299.out _).trans (hHeld.2.2.2.2.1)),((cell_far (p:=⟨gb299,_,none⟩) NB297_299.out _).trans (hHeld.2.2.2.2.2.1)),((cell_far (p:=⟨gb299,_,none⟩) NB297_299.out _).trans (hHeld.2.2.2.2.2.2.1)),((cell_far (p:=⟨gb299,_,none⟩) NB297_299.out _).trans (hHeld.2.2.2.2.2.2.2))⟩ (fun hHeld => ?_)
              clear hK K
              refine done_ (by kernel_rfl) ?_
              obtain ⟨_,_⟩:=zn0 NB299_291
              obtain ⟨_,_⟩:=zn0 NB299_293
              have hcz254_0:=zc00 BK299
              have hfz254_0:=blk_frozen BK299.out 0
              try go_wp2_with (first | ((with_reducible refine gate_callee (f:=68) rfl ?_);refine goesL_ (some 125) rfl rfl Try.func68 (by kernel_rfl) rfl #[.agg #[.slice Ao250 t312.length co250]] rfl zM0 ?_;(with_reducible refine (spec_DiskOk.calls kj188 _ _ t312 true _ ?side1 ?side2 A234.out).mono ?_);(case side1 => refine (Kd.R_reads' (e:=45) (base:=w.heap.size) (ok:=fun k_ => ((True ∧ some k_ ≠ (.slice Ao248 t309.length co248 : Value).ownBlock) ∧ k_ ≠ gb297)) (n:=t312.length) (c:=co250) ?_).2.2;exact (by refine zV0 ?_;exact (Kd.R_mono (Kd.R_far (p:=⟨gb299,0,none⟩) (Kd.R_types HO314.out BK299.out (by decide)) (fun _ hk => hk.2) (.slice Ao250 t312.length co250)) (fun _ h_ => h_.1))));(case side2 => exact (Kd.R_reads' HO314.out).2.1);rintro e w255 ⟨rfl,hb⟩;refine ⟨_,rfl,?_⟩;replace HO311:=Aside0.mk (Kd.R_below (by refine zV0 ?_;exact (Kd.R_mono (Kd.R_far (p:=⟨gb299,0,none⟩) (Kd.R_types HO311.out BK299.out (by decide)) (fun _ hk => hk.2) (.slice Ao250 t312.length co250)) (fun _ h_ => h_.1))) hb);replace HO314:=Aside0.mk (Kd.R_below (by refine zV0 ?_;exact (Kd.R_mono (Kd.R_far (p:=⟨gb299,0,none⟩) (Kd.R_types HO314.out BK299.out (by decide)) (fun _ hk => hk.2) (.slice Ao250 t312.length co250)) (fun _ h_ => h_.1))) hb);replace BK291:=zb0 BK291 hb;replace BK292:=zb0 BK292 hb;replace BK293:=zb0 BK293 hb;replace BK297:=zb0 BK297 hb;replace BK299:=Aside0.mk (blk_below (g:=gb299) (o:=.cells #[.slice Ao250 t312.length co250] 30 (0,0)) (by refine zT0 ?_;refine blk_put (cs:=#[.slice none 0 0]) ?_ 0 _ rfl;exact zK0 BK299.out) hb);replace HB:=zs0 HB hb;(try clear hb);(try clear hk);have hcz256_0:=zc00 BK299;have hfz256_0:=blk_frozen BK299.out 0;obtain ⟨_,_⟩:=zn0 NB293_291;have hcz258_0:=zc00 BK293;have hfz258_0:=blk_frozen BK293.out 0))
              refine bodyPost_ret (results_ct rfl _ _ gb293 30 #[.slice Ao250 t312.length co250] (0,0) _ rfl (by refine zT0 ?_;refine blk_put (cs:=#[.slice none 0 0]) ?_ 0 _ rfl;exact zK0 BK293.out) Try.underlying30 rfl (by kernel_rfl)) rfl ?_
              exact ⟨_,zW0,by refine zV0 ?_;exact Kd.R_mono (Kd.R_far (p:=⟨gb293,0,none⟩) (Kd.R_types HO314.out BK293.out (by decide)) (fun _ hk => hk.2) (.slice Ao250 t312.length co250)) (fun _ hk => trivial),(zY0 HB.out)⟩
             ·replace c235:=Bool.eq_false_iff.mpr c235
              subst c235
              have H1 : (some (([] : List (S45)),false)) = some (r1,r2):=by rw [if_neg (show ¬ (false = true) by decide)] at H;exact H
              clear H
              have H:=H1
              clear H1
              simp only [Option.some.injEq,Prod.mk.injEq] at H
              obtain ⟨rfl,rfl⟩:=H
              obtain ⟨_,_⟩:=zn0 NB292_291
              obtain ⟨_,_⟩:=zn0 NB292_293
              obtain ⟨_,_⟩:=zn0 NB292_297
              obtain ⟨_,_⟩:=zn0 NB292_299
              have hcz263_0 : wc.cell? ⟨gb292,0,none⟩ = some (.int .i64 a1_0):=(blk_cell BK292.out 0).trans rfl
              have hcz263_1 : wc.cell? ⟨gb292,1,none⟩ = some (.string a1_1):=(blk_cell BK292.out 1).trans rfl
              have hcz263_2 : wc.cell? ⟨gb292,2,none⟩ = some (.string a1_2):=(blk_cell BK292.out 2).trans rfl
              have hcz263_3 : wc.cell? ⟨gb292,3,none⟩ = some (.string a1_3):=(blk_cell BK292.out 3).trans rfl
              have hfz263_0:=blk_frozen BK292.out 0
              have hfz263_1:=blk_frozen BK292.out 1
              have hfz263_2:=blk_frozen BK292.out 2
              have hfz263_3:=blk_frozen BK292.out 3
              obtain ⟨_,_⟩:=zn0 NB297_291
              obtain ⟨_,_⟩:=zn0 NB297_293
              obtain ⟨_,_⟩:=zn0 NB297_299
              have hcz267_0 : wc.cell? ⟨gb297,0,none⟩ = some (.string x298000_59):=(blk_cell BK297.out 0).trans rfl
              have hcz267_1 : wc.cell? ⟨gb297,1,none⟩ = some (.string x298001_59):=(blk_cell BK297.out 1).trans rfl
              have hcz267_2 : wc.cell? ⟨gb297,2,none⟩ = some (.int .i64 x298002_59):=(blk_cell BK297.out 2).trans rfl
              have hfz267_0:=blk_frozen BK297.out 0
              have hfz267_1:=blk_frozen BK297.out 1
              have hfz267_2:=blk_frozen BK297.out 2
              try go_wp2
              have n0_ : Aside0 ((wc.setCell ⟨gb297,0,none⟩ (.string a1_3)).heap[gb291]? = some (.cells #[.slice A0_0 l0_0.length c0_0] 30 (0,0))):=⟨zK0 BK291.out⟩
              have n1_ : Aside0 ((wc.setCell ⟨gb297,0,none⟩ (.string a1_3)).heap[gb292]? = some (.cells #[.int .i64 a1_0,.string a1_1,.string a1_2,.string a1_3] 55 (0,0))):=⟨zK0 BK292.out⟩
              have n2_ : Aside0 ((wc.setCell ⟨gb297,0,none⟩ (.string a1_3)).heap[gb293]? = some (.cells #[.slice none 0 0] 30 (0,0))):=⟨zK0 BK293.out⟩
              have n3_ : Aside0 ((wc.setCell ⟨gb297,0,none⟩ (.string a1_3)).heap[gb297]? = some (.cells #[.string a1_3,.string x298001_59,.int .i64 x298002_59] 45 (0,0))):=⟨by refine zT0 ?_;refine blk_put (cs:=#[.string x298000_59,.string x298001_59,.int .i64 x298002_59]) ?_ 0 _ rfl;exact zK0 BK297.out⟩
              have n4_ : Aside0 ((wc.setCell ⟨gb297,0,none⟩ (.string a1_3)).heap[gb299]? = some (.cells #[.slice none 0 0] 30 (0,0))):=⟨zK0 BK299.out⟩
              have n5_ : Aside0 (Below w.heap.size w (wc.setCell ⟨gb297,0,none⟩ (.string a1_3))):=⟨zY0 HB.out⟩
              (try clear BK291)
              (try clear BK292)
              (try clear BK293)
              (try clear BK297)
              (try clear BK299)
              (try clear HB)
              generalize (wc.setCell ⟨gb297,0,none⟩ (.string a1_3)) = w268 at n0_ n1_ n2_ n3_ n4_ n5_ ⊢
              have BK291:=n0_
              have BK292:=n1_
              have BK293:=n2_
              have BK297:=n3_
              have BK299:=n4_
              have HB:=n5_
              clear n0_ n1_ n2_ n3_ n4_ n5_
              replace BK291:=Aside0.mk (blk_drew BK291.out)
              replace BK292:=Aside0.mk (blk_drew BK292.out)
              replace BK293:=Aside0.mk (blk_drew BK293.out)
              replace BK297:=Aside0.mk (blk_drew BK297.out)
              replace BK299:=Aside0.mk (blk_drew BK299.out)
              replace HB:=Aside0.mk (below_drew1 HB.out)
              refine start_ (n:=7) (S:=fun w' => w'.cell? ⟨gb291,0,none⟩ = some (.slice A0_0 l0_0.length c0_0) ∧ w'.cell? ⟨gb292,0,none⟩ = some (.int .i64 a1_0) ∧ w'.cell? ⟨gb292,1,none⟩ = some (.string a1_1) ∧ w'.cell? ⟨gb292,2,none⟩ = some (.string a1_2) ∧ w'.cell? ⟨gb292,3,none⟩ = some (.string a1_3) ∧ w'.cell? ⟨gb297,0,none⟩ = some (.string a1_3) ∧ w'.cell? ⟨gb297,1,none⟩ = some (.string x298001_59) ∧ w'.cell? ⟨gb297,2,none⟩ = some (.int .i64 x298002_59)) (ds:=[]) (zF0 7 0) (by kernel_rfl) rfl rfl ⟨(blk_cell BK291.out 0).trans rfl,(blk_cell BK292.out 0).trans rfl,(blk_cell BK292.out 1).trans rfl,(blk_cell BK292.out 2).trans rfl,(blk_cell BK292.out 3).trans rfl,(blk_cell BK297.out 0).trans rfl,(blk_cell BK297.out 1).trans rfl,(blk_cell BK297.out 2).trans rfl⟩ (fun hHeld => ?_)
              generalize w268.drew = w269 at BK291 BK292 BK293 BK297 BK299 HB hHeld ⊢
              refine pure_ (i:=1) (N:=some 111) (v:=?_) (a':=?_) (zF0 7 2) rfl rfl (by kernel_rfl) (fun _ _ _ h => h) (Or.inl ⟨by rfl,?_⟩) ?_ ?_;rotate_left
              ·intro w';go_simp;with_reducible rfl
              rotate_left
              ·simp only [Act.put,qA0,qB0,qC0,i64_w,i32_w];rfl
              refine take_ (i:=0) (N:=some 110) (v:=?_) (a':=?_) (zF0 7 3) rfl rfl (by kernel_rfl) (fun _ _ _ h => h) (Or.inl ⟨by rfl,?_⟩) hHeld ?_ ?_;rotate_left
              ·rintro w' ⟨s0,s1,s2,s3,s4,s5,s6,s7⟩
               go_simp
               with_reducible rfl
              rotate_left
              ·simp only [Act.put,qA0,qB0,qC0,i64_w,i32_w];rfl
              refine take_ (i:=2) (N:=some 112) (v:=?_) (a':=?_) (zF0 7 7) rfl rfl (by kernel_rfl) (fun _ _ _ h => h) (Or.inl ⟨by rfl,?_⟩) hHeld ?_ ?_;rotate_left
              ·rintro w' ⟨s0,s1,s2,s3,s4,s5,s6,s7⟩
               go_simp
               with_reducible rfl
              rotate_left
              ·simp only [Act.put,qA0,qB0,qC0,i64_w,i32_w];rfl
              refine take_ (i:=4) (N:=some 114) (v:=?_) (a':=?_) (zF0 7 23) rfl rfl (by kernel_rfl) (fun _ _ _ h => h) (Or.inl ⟨by rfl,?_⟩) hHeld ?_ ?_;rotate_left
              ·rintro w' ⟨s0,s1,s2,s3,s4,s5,s6,s7⟩
               go_simp
               with_reducible rfl
              rotate_left
              ·simp only [Act.put,qA0,qB0,qC0,i64_w,i32_w];rfl
              refine one_ (i:=3) (N:=some 113) (zF0 7 31) rfl rfl (by kernel_rfl) (by decide) (fun K hK => ?_)
              refine goes_ Try.func82 (by kernel_rfl) rfl #[.agg #[.slice A0_0 l0_0.length c0_0],.string a1_1] (by rfl) rfl rfl zM0 ?_
              with_reducible refine (spec_l03Without.calls kj188 _ _ l0_0 a1_1 t309 _ ?side1 ?side2 A232.out).mono ?_
              (case side1 => exact zA0 (Kd.C_below HR0_0.out HB.out))
              (case side2 => exact HC0_0.out)
              rintro e w270 ⟨v310,rfl,ho0,hb⟩
              refine ⟨_,rfl,?_⟩
              have HO311:=Aside0.mk (Kd.R_lower (Kd.R_newB ho0 (g:=gb297) (o:=.cells #[.string a1_3,.string x298001_59,.int .i64 x298002_59] 45 (0,0)) (zK0 BK297.out)) (zZ0 HB.out))
              replace BK291:=zb0 BK291 hb
              replace BK292:=zb0 BK292 hb
              replace BK293:=zb0 BK293 hb
              replace BK297:=zb0 BK297 hb
              replace BK299:=zb0 BK299 hb
              replace HB:=zs0 HB hb
              (try clear hb)
              (try clear hb2)
              (try clear hk)
              (try clear hi)
              (try clear ho0)
              obtain ⟨Ao271,co271,eo271⟩:=Kd.R_slice HO311.out
              (first | subst eo271 | (injection eo271 with f1_ f2_ f3_;have f4_:=f1_.symm;have f5_:=f3_.symm;clear f1_ f2_ f3_;subst f4_;subst f5_))
              refine hK.out _ _ ⟨(blk_cell BK291.out 0).trans rfl,(blk_cell BK292.out 0).trans rfl,(blk_cell BK292.out 1).trans rfl,(blk_cell BK292.out 2).trans rfl,(blk_cell BK292.out 3).trans rfl,(blk_cell BK297.out 0).trans rfl,(blk_cell BK297.out 1).trans rfl,(blk_cell BK297.out 2).trans rfl⟩ (fun hHeld => ?_)
              clear hK K
              refine norm_ (a':=?_) ?_ ?_;rotate_left
              ·show Act.put _ (some 113) _ = _;simp only [Act.put,qA0,qB0,qC0,i64_w,i32_w];rfl
              refine one_ (i:=5) (N:=some 115) (zF0 7 63) rfl rfl (by kernel_rfl) (by decide) (fun K hK => ?_)
              refine goes_ Try.func74 (by kernel_rfl) rfl #[.agg #[.slice Ao271 t309.length co271],.agg #[.string a1_3,.string x298001_59,.int .i64 x298002_59]] (by rfl) rfl rfl zM0 ?_
              with_reducible refine (spec_l03Put.calls kj188 _ _ t309 a1_3 x298001_59 x298002_59 t312 _ ?side1 ?side2 A233.out).mono ?_
              (case side1 => repeat (first | exact (Kd.R_reads' HO311.out).2.2 | (with_reducible refine Kd.C_alloc ?_ _) | (with_reducible refine Kd.C_drewN ?_ _) | (with_reducible refine Kd.C_drew ?_)))
              (case side2 => exact (Kd.R_reads' HO311.out).2.1)
              rintro e w272 ⟨v313,rfl,ho0,hb⟩
              refine ⟨_,rfl,?_⟩
              have HO314:=Aside0.mk (Kd.R_lower (Kd.R_newB (Kd.R_new' ho0 (Kd.R_lt (zR0 HO311.out))) (g:=gb297) (o:=.cells #[.string a1_3,.string x298001_59,.int .i64 x298002_59] 45 (0,0)) (zK0 BK297.out)) (zZ0 HB.out))
              replace HO311:=Aside0.mk (Kd.R_elder' (zR0 HO311.out) (Kd.R_base ho0) hb)
              replace BK291:=zb0 BK291 hb
              replace BK292:=zb0 BK292 hb
              replace BK293:=zb0 BK293 hb
              replace BK297:=zb0 BK297 hb
              replace BK299:=zb0 BK299 hb
              replace HB:=zs0 HB hb
              (try clear hb)
              (try clear hb2)
              (try clear hk)
              (try clear hi)
              (try clear ho0)
              obtain ⟨Ao273,co273,eo273⟩:=Kd.R_slice HO314.out
              (first | subst eo273 | (injection eo273 with f1_ f2_ f3_;have f4_:=f1_.symm;have f5_:=f3_.symm;clear f1_ f2_ f3_;subst f4_;subst f5_))
              refine hK.out _ _ ⟨(blk_cell BK291.out 0).trans rfl,(blk_cell BK292.out 0).trans rfl,(blk_cell BK292.out 1).trans rfl,(blk_cell BK292.out 2).trans rfl,(blk_cell BK292.out 3).trans rfl,(blk_cell BK297.out 0).trans rfl,(blk_cell BK297.out 1).trans rfl,(blk_cell BK297.out 2).trans rfl⟩ (fun hHeld => ?_)
              clear hK K
              refine norm_ (a':=?_) ?_ ?_;rotate_left
              ·show Act.put _ (some 115) _ = _;simp only [Act.put,qA0,qB0,qC0,i64_w,i32_w];rfl
              refine one_ (i:=6) (N:=none) (zF0 7 127) rfl rfl (by kernel_rfl) (by decide) (fun K hK => ?_)
              have hs274 : w272.cell? ⟨gb299,0,none⟩ = some (.slice none 0 0):=(blk_cell BK299.out 0).trans rfl
              have hfs274:=blk_frozen BK299.out 0
              have hns274_0:=NB291_299.out
              have hns274_1:=NB292_299.out
              have hns274_2:=NB293_299.out
              have hns274_3:=NB297_299.out
              have hms274_0:=NB299_291.out
              have hms274_1:=NB299_292.out
              have hms274_2:=NB299_293.out
              have hms274_3:=NB299_297.out
              refine skip_ (w1:=?_) (by rfl) rfl ?_ ?_;rotate_left
              ·go_simp
               rfl
              refine hK.out _ _ ⟨((cell_far (p:=⟨gb299,_,none⟩) NB291_299.out _).trans (hHeld.1)),((cell_far (p:=⟨gb299,_,none⟩) NB292_299.out _).trans (hHeld.2.1)),((cell_far (p:=⟨gb299,_,none⟩) NB292_299.out _).trans (hHeld.2.2.1)),((cell_far (p:=⟨gb299,_,none⟩) NB292_299.out _).trans (hHeld.2.2.2.1)),((cell_far (p:=⟨gb299,_,none⟩) NB292_299.out _).trans (hHeld.2.2.2.2.1)),((cell_far (p:=⟨gb299,_,none⟩) NB297_299.out _).trans (hHeld.2.2.2.2.2.1)),((cell_far (p:=⟨gb299,_,none⟩) NB297_299.out _).trans (hHeld.2.2.2.2.2.2.1)),((cell_far (p:=⟨gb299,_,none⟩) NB297_299.out _).trans (hHeld.2.2.2.2.2.2.2))⟩ (fun hHeld => ?_)
              clear hK K
              refine done_ (by kernel_rfl) ?_
              obtain ⟨_,_⟩:=zn0 NB299_291
              obtain ⟨_,_⟩:=zn0 NB299_293
              have hcz277_0:=zc00 BK299
              have hfz277_0:=blk_frozen BK299.out 0
              try go_wp2_with (first | ((with_reducible refine gate_callee (f:=68) rfl ?_);refine goesL_ (some 125) rfl rfl Try.func68 (by kernel_rfl) rfl #[.agg #[.slice Ao273 t312.length co273]] rfl zM0 ?_;(with_reducible refine (spec_DiskOk.calls kj188 _ _ t312 false _ ?side1 ?side2 A234.out).mono ?_);(case side1 => refine (Kd.R_reads' (e:=45) (base:=w.heap.size) (ok:=fun k_ => ((True ∧ some k_ ≠ (.slice Ao271 t309.length co271 : Value).ownBlock) ∧ k_ ≠ gb297)) (n:=t312.length) (c:=co273) ?_).2.2;exact (by refine zV0 ?_;exact (Kd.R_mono (Kd.R_far (p:=⟨gb299,0,none⟩) (Kd.R_types HO314.out BK299.out (by decide)) (fun _ hk => hk.2) (.slice Ao273 t312.length co273)) (fun _ h_ => h_.1))));(case side2 => exact (Kd.R_reads' HO314.out).2.1);rintro e w278 ⟨rfl,hb⟩;refine ⟨_,rfl,?_⟩;replace HO311:=Aside0.mk (Kd.R_below (by refine zV0 ?_;exact (Kd.R_mono (Kd.R_far (p:=⟨gb299,0,none⟩) (Kd.R_types HO311.out BK299.out (by decide)) (fun _ hk => hk.2) (.slice Ao273 t312.length co273)) (fun _ h_ => h_.1))) hb);replace HO314:=Aside0.mk (Kd.R_below (by refine zV0 ?_;exact (Kd.R_mono (Kd.R_far (p:=⟨gb299,0,none⟩) (Kd.R_types HO314.out BK299.out (by decide)) (fun _ hk => hk.2) (.slice Ao273 t312.length co273)) (fun _ h_ => h_.1))) hb);replace BK291:=zb0 BK291 hb;replace BK292:=zb0 BK292 hb;replace BK293:=zb0 BK293 hb;replace BK297:=zb0 BK297 hb;replace BK299:=Aside0.mk (blk_below (g:=gb299) (o:=.cells #[.slice Ao273 t312.length co273] 30 (0,0)) (by refine zT0 ?_;refine blk_put (cs:=#[.slice none 0 0]) ?_ 0 _ rfl;exact zK0 BK299.out) hb);replace HB:=zs0 HB hb;(try clear hb);(try clear hk);obtain ⟨_,_⟩:=zn0 NB293_291;have hcz280_0:=zc00 BK293;have hfz280_0:=blk_frozen BK293.out 0))
              refine bodyPost_ret (results_ct rfl _ _ gb293 30 #[.slice none 0 0] (0,0) _ rfl (by refine zT0 ?_;refine blk_put (cs:=#[.slice none 0 0]) ?_ 0 _ rfl;exact zK0 BK293.out) Try.underlying30 rfl (by kernel_rfl)) rfl ?_
              exact ⟨_,zW0,by first | exact Kd.R_nil _ _ _ _ _ | exact Kd.N_nil _ _ _ _ _ | exact Kd.V_nil _ _ _ _ _ | exact Kd.Q_nil _ _ _ _ _ | exact Kd.S_nil _ _ _ _ _,(zY0 HB.out)⟩
         ·rw [if_neg c188] at H
          have c188b0 : (a1_0 == 3) = false:=beq_eq_false_iff_ne.mpr c188
          have c188b1 : (a1_0 != 3) = true:=bne_iff_ne.mpr c188
          by_cases c281 : a1_0 = 4
          ·rw [if_pos c281] at H
           have c281b0 : (a1_0 == 4) = true:=beq_iff_eq.mpr c281
           have c281b1 : (a1_0 != 4) = false:=bne_eq_false_iff_eq.mpr c281
           clear c281
           replace H:=Option.bind_eq_some_iff.mp H
           obtain ⟨t316,A2820,H⟩:=H
           replace H : ((spec_DiskOk.f kj59 t316).bind fun t319 => (if t319 = true then (some (t316,true)) else (some (([] : List (S45)),false)))) = some (r1,r2):=H
           have A282:=Aside0.mk A2820
           clear A2820
           replace H:=Option.bind_eq_some_iff.mp H
           obtain ⟨t319,A2830,H⟩:=H
           replace H : (if t319 = true then (some (t316,true)) else (some (([] : List (S45)),false))) = some (r1,r2):=H
           have A283:=Aside0.mk A2830
           clear A2830
           by_cases c284 : t319 = true
           ·subst c284
            have H1 : (some (t316,true)) = some (r1,r2):=by rw [if_pos rfl] at H;exact H
            clear H
            have H:=H1
            clear H1
            simp only [Option.some.injEq,Prod.mk.injEq] at H
            obtain ⟨rfl,rfl⟩:=H
            go_wp2_with (first | ((with_reducible refine gate_dst (N:=8) rfl ?_);refine box_event ?hg (N:=8) ?hd (cs:=#[.slice none 0 0]) (t:=30) ?hr ?_;(case hd => rfl);(case hg => rfl);(case hr => first | (go_simp;done) | (go_simp;rfl));intro gb299 hg w285 hbox hb;have BK299:=Aside0.mk hbox;have GW299:=zz0 hg HB;have GE299:=zz0 hg HB;replace HB:=zs0 HB hb;have NB291_299:=zl0 hg BK291;have NB299_291:=zg0 hg BK291;replace BK291:=zb0 BK291 hb;have NB292_299:=zl0 hg BK292;have NB299_292:=zg0 hg BK292;replace BK292:=zb0 BK292 hb;have NB293_299:=zl0 hg BK293;have NB299_293:=zg0 hg BK293;replace BK293:=zb0 BK293 hb;have NB297_299:=zl0 hg BK297;have NB299_297:=zg0 hg BK297;replace BK297:=zb0 BK297 hb;clear hb hbox hg;obtain ⟨_,_⟩:=zn0 NB299_291;obtain ⟨_,_⟩:=zn0 NB299_292;obtain ⟨_,_⟩:=zn0 NB299_293;obtain ⟨_,_⟩:=zn0 NB299_297;have hcz290_0:=zc00 BK299;have hfz290_0:=blk_frozen BK299.out 0;obtain ⟨_,_⟩:=zn0 NB292_291;obtain ⟨_,_⟩:=zn0 NB292_293;obtain ⟨_,_⟩:=zn0 NB292_297;have hcz294_0:=zc00 BK292;have hcz294_1:=zc01 BK292;have hcz294_2:=zc02 BK292;have hcz294_3:=zc03 BK292;have hfz294_0:=blk_frozen BK292.out 0;have hfz294_1:=blk_frozen BK292.out 1;have hfz294_2:=blk_frozen BK292.out 2;have hfz294_3:=blk_frozen BK292.out 3;obtain ⟨_,_⟩:=zn0 NB291_293;obtain ⟨_,_⟩:=zn0 NB291_297;have hcz297_0:=zc00 BK291;have hfz297_0:=blk_frozen BK291.out 0) | ((with_reducible refine gate_callee (f:=82) rfl ?_);refine goesL_ (some 123) rfl rfl Try.func82 (by kernel_rfl) rfl #[.agg #[.slice A0_0 l0_0.length c0_0],.string a1_1] rfl zM0 ?_;(with_reducible refine (spec_l03Without.calls kj59 _ _ l0_0 a1_1 t316 _ ?side1 ?side2 A282.out).mono ?_);(case side1 => exact Kd.C_below HR0_0.out (zY0 HB.out));(case side2 => exact HC0_0.out);rintro e w298 ⟨v317,rfl,ho0,hb⟩;refine ⟨_,rfl,?_⟩;have HO318:=Aside0.mk (Kd.R_lower (Kd.R_newB ho0 (g:=gb297) (o:=.cells #[.string x298000_59,.string x298001_59,.int .i64 x298002_59] 45 (0,0)) (zK0 BK297.out)) (zZ0 HB.out));replace BK291:=zb0 BK291 hb;replace BK292:=zb0 BK292 hb;replace BK293:=zb0 BK293 hb;replace BK297:=zb0 BK297 hb;replace BK299:=Aside0.mk (blk_below (g:=gb299) (o:=.cells #[.slice none 0 0] 30 (0,0)) (by refine zT0 ?_;refine blk_put (cs:=#[.slice none 0 0]) ?_ 0 _ rfl;exact zK0 BK299.out) hb);replace HB:=zs0 HB hb;(try clear hb);(try clear ho0);obtain ⟨Ao299,co299,eo299⟩:=Kd.R_slice HO318.out;subst eo299;have hcz300_0:=zc00 BK299;have hfz300_0:=blk_frozen BK299.out 0) | ((with_reducible refine gate_callee (f:=68) rfl ?_);refine goesL_ (some 125) rfl rfl Try.func68 (by kernel_rfl) rfl #[.agg #[.slice Ao299 t316.length co299]] rfl zM0 ?_;(with_reducible refine (spec_DiskOk.calls kj59 _ _ t316 true _ ?side1 ?side2 A283.out).mono ?_);(case side1 => refine (Kd.R_reads' (e:=45) (base:=w.heap.size) (ok:=fun k_ => (True ∧ k_ ≠ gb297)) (n:=t316.length) (c:=co299) ?_).2.2;exact (by refine zV0 ?_;exact (Kd.R_mono (Kd.R_far (p:=⟨gb299,0,none⟩) (Kd.R_types HO318.out BK299.out (by decide)) (fun _ hk => hk.2) (.slice Ao299 t316.length co299)) (fun _ h_ => h_.1))));(case side2 => exact (Kd.R_reads' HO318.out).2.1);rintro e w301 ⟨rfl,hb⟩;refine ⟨_,rfl,?_⟩;replace HO318:=Aside0.mk (Kd.R_below (by refine zV0 ?_;exact (Kd.R_mono (Kd.R_far (p:=⟨gb299,0,none⟩) (Kd.R_types HO318.out BK299.out (by decide)) (fun _ hk => hk.2) (.slice Ao299 t316.length co299)) (fun _ h_ => h_.1))) hb);replace BK291:=zb0 BK291 hb;replace BK292:=zb0 BK292 hb;replace BK293:=zb0 BK293 hb;replace BK297:=zb0 BK297 hb;replace BK299:=Aside0.mk (blk_below (g:=gb299) (o:=.cells #[.slice Ao299 t316.length co299] 30 (0,0)) (by refine zT0 ?_;refine blk_put (cs:=#[.slice none 0 0]) ?_ 0 _ rfl;exact zK0 BK299.out) hb);replace HB:=zs0 HB hb;(try clear hb);(try clear hk);have hcz302_0:=zc00 BK299;have hfz302_0:=blk_frozen BK299.out 0;obtain ⟨_,_⟩:=zn0 NB293_297;have hcz304_0:=zc00 BK293;have hfz304_0:=blk_frozen BK293.out 0))
            refine bodyPost_ret (results_ct rfl _ _ gb293 30 #[.slice Ao299 t316.length co299] (0,0) _ rfl (by refine zT0 ?_;refine blk_put (cs:=#[.slice none 0 0]) ?_ 0 _ rfl;exact zK0 BK293.out) Try.underlying30 rfl (by kernel_rfl)) rfl ?_
            exact ⟨_,zW0,by refine zV0 ?_;exact Kd.R_mono (Kd.R_far (p:=⟨gb293,0,none⟩) (Kd.R_types HO318.out BK293.out (by decide)) (fun _ hk => hk.2) (.slice Ao299 t316.length co299)) (fun _ hk => trivial),(zY0 HB.out)⟩
           ·replace c284:=Bool.eq_false_iff.mpr c284
            subst c284
            have H1 : (some (([] : List (S45)),false)) = some (r1,r2):=by rw [if_neg (show ¬ (false = true) by decide)] at H;exact H
            clear H
            have H:=H1
            clear H1
            simp only [Option.some.injEq,Prod.mk.injEq] at H
            obtain ⟨rfl,rfl⟩:=H
            go_wp2_with (first | ((with_reducible refine gate_dst (N:=8) rfl ?_);refine box_event ?hg (N:=8) ?hd (cs:=#[.slice none 0 0]) (t:=30) ?hr ?_;(case hd => rfl);(case hg => rfl);(case hr => first | (go_simp;done) | (go_simp;rfl));intro gb299 hg w305 hbox hb;have BK299:=Aside0.mk hbox;have GW299:=zz0 hg HB;have GE299:=zz0 hg HB;replace HB:=zs0 HB hb;have NB291_299:=zl0 hg BK291;have NB299_291:=zg0 hg BK291;replace BK291:=zb0 BK291 hb;have NB292_299:=zl0 hg BK292;have NB299_292:=zg0 hg BK292;replace BK292:=zb0 BK292 hb;have NB293_299:=zl0 hg BK293;have NB299_293:=zg0 hg BK293;replace BK293:=zb0 BK293 hb;have NB297_299:=zl0 hg BK297;have NB299_297:=zg0 hg BK297;replace BK297:=zb0 BK297 hb;clear hb hbox hg;obtain ⟨_,_⟩:=zn0 NB299_291;obtain ⟨_,_⟩:=zn0 NB299_292;obtain ⟨_,_⟩:=zn0 NB299_293;obtain ⟨_,_⟩:=zn0 NB299_297;have hcz310_0:=zc00 BK299;have hfz310_0:=blk_frozen BK299.out 0;obtain ⟨_,_⟩:=zn0 NB292_291;obtain ⟨_,_⟩:=zn0 NB292_293;obtain ⟨_,_⟩:=zn0 NB292_297;have hcz314_0:=zc00 BK292;have hcz314_1:=zc01 BK292;have hcz314_2:=zc02 BK292;have hcz314_3:=zc03 BK292;have hfz314_0:=blk_frozen BK292.out 0;have hfz314_1:=blk_frozen BK292.out 1;have hfz314_2:=blk_frozen BK292.out 2;have hfz314_3:=blk_frozen BK292.out 3;obtain ⟨_,_⟩:=zn0 NB291_293;obtain ⟨_,_⟩:=zn0 NB291_297;have hcz317_0:=zc00 BK291;have hfz317_0:=blk_frozen BK291.out 0) | ((with_reducible refine gate_callee (f:=82) rfl ?_);refine goesL_ (some 123) rfl rfl Try.func82 (by kernel_rfl) rfl #[.agg #[.slice A0_0 l0_0.length c0_0],.string a1_1] rfl zM0 ?_;(with_reducible refine (spec_l03Without.calls kj59 _ _ l0_0 a1_1 t316 _ ?side1 ?side2 A282.out).mono ?_);(case side1 => exact Kd.C_below HR0_0.out (zY0 HB.out));(case side2 => exact HC0_0.out);rintro e w318 ⟨v317,rfl,ho0,hb⟩;refine ⟨_,rfl,?_⟩;have HO318:=Aside0.mk (Kd.R_lower (Kd.R_newB ho0 (g:=gb297) (o:=.cells #[.string x298000_59,.string x298001_59,.int .i64 x298002_59] 45 (0,0)) (zK0 BK297.out)) (zZ0 HB.out));replace BK291:=zb0 BK291 hb;replace BK292:=zb0 BK292 hb;replace BK293:=zb0 BK293 hb;replace BK297:=zb0 BK297 hb;replace BK299:=Aside0.mk (blk_below (g:=gb299) (o:=.cells #[.slice none 0 0] 30 (0,0)) (by refine zT0 ?_;refine blk_put (cs:=#[.slice none 0 0]) ?_ 0 _ rfl;exact zK0 BK299.out) hb);replace HB:=zs0 HB hb;(try clear hb);(try clear ho0);obtain ⟨Ao319,co319,eo319⟩:=Kd.R_slice HO318.out;subst eo319;have hcz320_0:=zc00 BK299;have hfz320_0:=blk_frozen BK299.out 0) | ((with_reducible refine gate_callee (f:=68) rfl ?_);refine goesL_ (some 125) rfl rfl Try.func68 (by kernel_rfl) rfl #[.agg #[.slice Ao319 t316.length co319]] rfl zM0 ?_;(with_reducible refine (spec_DiskOk.calls kj59 _ _ t316 false _ ?side1 ?side2 A283.out).mono ?_);(case side1 => refine (Kd.R_reads' (e:=45) (base:=w.heap.size) (ok:=fun k_ => (True ∧ k_ ≠ gb297)) (n:=t316.length) (c:=co319) ?_).2.2;exact (by refine zV0 ?_;exact (Kd.R_mono (Kd.R_far (p:=⟨gb299,0,none⟩) (Kd.R_types HO318.out BK299.out (by decide)) (fun _ hk => hk.2) (.slice Ao319 t316.length co319)) (fun _ h_ => h_.1))));(case side2 => exact (Kd.R_reads' HO318.out).2.1);rintro e w321 ⟨rfl,hb⟩;refine ⟨_,rfl,?_⟩;replace HO318:=Aside0.mk (Kd.R_below (by refine zV0 ?_;exact (Kd.R_mono (Kd.R_far (p:=⟨gb299,0,none⟩) (Kd.R_types HO318.out BK299.out (by decide)) (fun _ hk => hk.2) (.slice Ao319 t316.length co319)) (fun _ h_ => h_.1))) hb);replace BK291:=zb0 BK291 hb;replace BK292:=zb0 BK292 hb;replace BK293:=zb0 BK293 hb;replace BK297:=zb0 BK297 hb;replace BK299:=Aside0.mk (blk_below (g:=gb299) (o:=.cells #[.slice Ao319 t316.length co319] 30 (0,0)) (by refine zT0 ?_;refine blk_put (cs:=#[.slice none 0 0]) ?_ 0 _ rfl;exact zK0 BK299.out) hb);replace HB:=zs0 HB hb;(try clear hb);(try clear hk);obtain ⟨_,_⟩:=zn0 NB293_297;have hcz323_0:=zc00 BK293;have hfz323_0:=blk_frozen BK293.out 0))
            refine bodyPost_ret (results_ct rfl _ _ gb293 30 #[.slice none 0 0] (0,0) _ rfl (by refine zT0 ?_;refine blk_put (cs:=#[.slice none 0 0]) ?_ 0 _ rfl;exact zK0 BK293.out) Try.underlying30 rfl (by kernel_rfl)) rfl ?_
            exact ⟨_,zW0,by first | exact Kd.R_nil _ _ _ _ _ | exact Kd.N_nil _ _ _ _ _ | exact Kd.V_nil _ _ _ _ _ | exact Kd.Q_nil _ _ _ _ _ | exact Kd.S_nil _ _ _ _ _,(zY0 HB.out)⟩
          ·rw [if_neg c281] at H
           have c281b0 : (a1_0 == 4) = false:=beq_eq_false_iff_ne.mpr c281
           have c281b1 : (a1_0 != 4) = true:=bne_iff_ne.mpr c281
           simp only [Option.some.injEq,Prod.mk.injEq] at H
           obtain ⟨rfl,rfl⟩:=H
           go_wp2_with (first | ((with_reducible refine gate_dst (N:=8) rfl ?_);refine box_event ?hg (N:=8) ?hd (cs:=#[.slice none 0 0]) (t:=30) ?hr ?_;(case hd => rfl);(case hg => rfl);(case hr => first | (go_simp;done) | (go_simp;rfl));intro gb299 hg w324 hbox hb;have BK299:=Aside0.mk hbox;have GW299:=zz0 hg HB;have GE299:=zz0 hg HB;replace HB:=zs0 HB hb;have NB291_299:=zl0 hg BK291;have NB299_291:=zg0 hg BK291;replace BK291:=zb0 BK291 hb;have NB292_299:=zl0 hg BK292;have NB299_292:=zg0 hg BK292;replace BK292:=zb0 BK292 hb;have NB293_299:=zl0 hg BK293;have NB299_293:=zg0 hg BK293;replace BK293:=zb0 BK293 hb;have NB297_299:=zl0 hg BK297;have NB299_297:=zg0 hg BK297;replace BK297:=zb0 BK297 hb;clear hb hbox hg;obtain ⟨_,_⟩:=zn0 NB299_291;obtain ⟨_,_⟩:=zn0 NB299_292;obtain ⟨_,_⟩:=zn0 NB299_293;obtain ⟨_,_⟩:=zn0 NB299_297;have hcz329_0:=zc00 BK299;have hfz329_0:=blk_frozen BK299.out 0;obtain ⟨_,_⟩:=zn0 NB292_291;obtain ⟨_,_⟩:=zn0 NB292_293;obtain ⟨_,_⟩:=zn0 NB292_297;have hcz333_0:=zc00 BK292;have hcz333_1:=zc01 BK292;have hcz333_2:=zc02 BK292;have hcz333_3:=zc03 BK292;have hfz333_0:=blk_frozen BK292.out 0;have hfz333_1:=blk_frozen BK292.out 1;have hfz333_2:=blk_frozen BK292.out 2;have hfz333_3:=blk_frozen BK292.out 3;obtain ⟨_,_⟩:=zn0 NB293_291;obtain ⟨_,_⟩:=zn0 NB293_297;have hcz336_0:=zc00 BK293;have hfz336_0:=blk_frozen BK293.out 0))
           refine bodyPost_ret (results_ct rfl _ _ gb293 30 #[.slice none 0 0] (0,0) _ rfl (by refine zT0 ?_;refine blk_put (cs:=#[.slice none 0 0]) ?_ 0 _ rfl;exact zK0 BK293.out) Try.underlying30 rfl (by kernel_rfl)) rfl ?_
           exact ⟨_,zW0,by first | exact Kd.R_nil _ _ _ _ _ | exact Kd.N_nil _ _ _ _ _ | exact Kd.V_nil _ _ _ _ _ | exact Kd.Q_nil _ _ _ _ _ | exact Kd.S_nil _ _ _ _ _,(zY0 HB.out)⟩

end Go.Proofs.Ytgfacdhkamphiaa.PFnExactCutActs
